/- What functions of the given program come to, by the abstract machine: texts of a proof. -/
import Derived.Test.YtkbfjfookfmobaaDoorP1
import Derived.Test.YtkbfjfookfmobaaDoorAbs2
set_option linter.unusedVariables false
set_option linter.unusedSimpArgs false
set_option maxRecDepth 8000
set_option maxHeartbeats 4000000
namespace Go.Abs
open Go.Proofs Go.Proofs.Tryd
/-! ### the document's block: rounds -/
theorem ch32 {e g : Int} (he : Wd 32 e) (hg : Wd 32 g) : iand (18446744073709551615 - e) g = iand (4294967295 - e) g := by
  rw [Wd, show (2 : Int) ^ 32 = 4294967296 by decide] at he hg
  obtain ⟨n, rfl⟩ := Int.eq_ofNat_of_zero_le he.1
  obtain ⟨m, rfl⟩ := Int.eq_ofNat_of_zero_le hg.1
  unfold iand
  rw [Int.toNat_natCast]
  congr 1
  have hm : m % 2 ^ 32 = m := Nat.mod_eq_of_lt (by omega)
  have key : ∀ a : Nat, a &&& m = (a % 2 ^ 32) &&& m := fun a => by
    have h1 := Nat.and_mod_two_pow (a := a) (b := m) (n := 32)
    have h2 : a &&& m ≤ m := Nat.and_le_right
    rw [Nat.mod_eq_of_lt (a := a &&& m) (by omega), hm] at h1
    exact h1
  rw [key (18446744073709551615 - (n : Int)).toNat, key (4294967295 - (n : Int)).toNat]
  congr 1
  omega
theorem sum2_32 (a b : Int) : iand ((a + b) % 18446744073709551616) 4294967295 = (a + b) % 4294967296 := by rw [iand_mask (by omega)]; omega
theorem sum5_32 (a b c d e : Int) : iand (((((a + b) % 18446744073709551616 + c) % 18446744073709551616 + d) % 18446744073709551616 + e) % 18446744073709551616) 4294967295 = ((((a + b) % 4294967296 + c) % 4294967296 + d) % 4294967296 + e) % 4294967296 := by rw [iand_mask (by omega)]; omega
def isCubesLaw (kk : List Int) : Prop := kk = cubesLaw
theorem kk32 (t : Nat) : cubesLaw.getD t 0 / 4294967296 = cLaw 32 t := by
  unfold cLaw; rw [show (2 : Int) ^ (64 - 32) = 4294967296 by decide]
theorem kk64 (t : Nat) : cubesLaw.getD t 0 / 1 = cLaw 64 t := c64 t
theorem rnds_app {W : Nat} {m : Int} {u0 u1 a b x : List Int} : ∀ t, t ≤ a.length → rndsLaw W m u0 u1 (a ++ b) x t = rndsLaw W m u0 u1 a x t
  | 0, _ => rfl
  | t + 1, h => by
    unfold rndsLaw
    rw [rnds_app t (by omega), getD_left (by omega)]
def gxs (g : Nat) : Nat → Nat | 0 => g | _ + 1 => 0
def cxs (c : Option Nat) : Nat → Option Nat | 0 => c | _ + 1 => some 8
/-! width 32 -/
def FX49_32 (g4 g5 gw gx : Nat) (cp ck cx : Option Nat) (t : Nat) : Fm := [(1, .slice 1 4 g4 0 8 cp), (2, .slice 1 5 g5 0 80 ck), (4, .var 7 0), (9, .slice 1 8 gw 0 64 none), (10, .slice 1 9 gx 0 8 cx), (11, .int .i64 t)]
def TX49_32 (ss kk zs ws : List Int) (g4 g5 g6 gw : Nat) (o4 o5 o6 ow : Bool) (gx : Nat) (xs : List Int) : Tab := [some ⟨.ints .i64 [7, 18, 3], 0, false, 3⟩, some ⟨.ints .i64 [17, 19, 10], 0, false, 3⟩, some ⟨.ints .i64 [2, 13, 22], 0, false, 3⟩, some ⟨.ints .i64 [6, 11, 25], 0, false, 3⟩, some ⟨.ints .u64 ss, g4, o4, 56⟩, some ⟨.ints .u64 kk, g5, o5, 56⟩, some ⟨.ints .u8 zs, g6, o6, 5⟩, some ⟨.agg [.int .i64 32, .int .i64 64, .int .i64 64, .slice 1 0 0 0 3 (some 3), .slice 1 1 0 0 3 (some 3), .slice 1 2 0 0 3 (some 3), .slice 1 3 0 0 3 (some 3)], 0, true, 54⟩, some ⟨.ints .u64 ws, gw, ow, 56⟩, some ⟨.ints .u64 xs, gx, true, 56⟩]
theorem rnd49_32 {kk ws : List Int} {t : Nat} {y0 y1 y2 y3 y4 y5 y6 y7 : Int} (hk : kk = cubesLaw) (hy : Wds 32 [y0, y1, y2, y3, y4, y5, y6, y7]) :
    [iand ((iand (((((y7 + highLaw 32 [6, 11, 25] y4) % 18446744073709551616 + ixor (iand y4 y5) (iand (18446744073709551615 - y4) y6)) % 18446744073709551616 + kk.getD t 0 / 4294967296) % 18446744073709551616 + ws.getD t 0) % 18446744073709551616) 4294967295 + iand ((highLaw 32 [2, 13, 22] y0 + ixor (ixor (iand y0 y1) (iand y0 y2)) (iand y1 y2)) % 18446744073709551616) 4294967295) % 18446744073709551616) 4294967295, y0, y1, y2, iand ((y3 + iand (((((y7 + highLaw 32 [6, 11, 25] y4) % 18446744073709551616 + ixor (iand y4 y5) (iand (18446744073709551615 - y4) y6)) % 18446744073709551616 + kk.getD t 0 / 4294967296) % 18446744073709551616 + ws.getD t 0) % 18446744073709551616) 4294967295) % 18446744073709551616) 4294967295, y4, y5, y6] = rndLaw 32 4294967296 [2, 13, 22] [6, 11, 25] (cLaw 32 t) (ws.getD t 0) [y0, y1, y2, y3, y4, y5, y6, y7] := by
  subst hk
  have hc : iand (18446744073709551615 - y4) y6 = iand (4294967295 - y4) y6 := ch32 (hy 4) (hy 6)
  rw [hc, kk32]
  simp only [sum5_32]
  simp only [sum2_32]
  rfl
theorem loopG49_32 {ss kk zs ws : List Int} {g4 g5 g6 gw : Nat} {cp ck : Option Nat} {o4 o5 o6 ow : Bool} {g0 : Nat} {c0 : Option Nat} {x0 : List Int} (hk : kk = cubesLaw) (hwl : ws.length = 64) (hww : Wds 32 ws) (hxl : x0.length = 8) (hx : Wds 32 x0) :
    To eT32 157 9 (.block 0 (.loop (roundOf 0 f49))) (FX49_32 g4 g5 gw g0 cp ck c0 0) (TX49_32 ss kk zs ws g4 g5 g6 gw o4 o5 o6 ow g0 x0) .normal [(1, .slice 1 4 g4 0 8 cp), (4, .var 7 0), (10, .slice 1 9 0 0 8 (some 8))] (TX49_32 ss kk zs ws g4 g5 g6 gw o4 o5 o6 ow 0 (rndsLaw 32 4294967296 [2, 13, 22] [6, 11, 25] ws x0 64)) := by
  refine To.rounds (fun i => FX49_32 g4 g5 gw (gxs g0 i) cp ck (cxs c0 i) i) (fun i => TX49_32 ss kk zs ws g4 g5 g6 gw o4 o5 o6 ow (gxs g0 i) (rndsLaw 32 4294967296 [2, 13, 22] [6, 11, 25] ws x0 i)) 64 (fun i hi => ?_)
    (To.of (o := H49_32 (64 : Nat) ss kk zs ws (rndsLaw 32 4294967296 [2, 13, 22] [6, 11, 25] ws x0 64) g4 g5 g6 gw 0 cp ck (some 8) o4 o5 o6 ow) eT32_ok hmS (Nat.le_refl 9) OrcOk.nil rfl (H49_32_ok (by simp [allP, Con.h])) H49_32_ex H49_32_fm H49_32_tab)
  have hrl := rnds_len (W := 32) (m := 4294967296) (u0 := [2, 13, 22]) (u1 := [6, 11, 25]) (ws := ws) hxl i
  have hrw := rnds_wds (W := 32) (m := 4294967296) (by decide) (u0 := [2, 13, 22]) (u1 := [6, 11, 25]) (ws := ws) hx i
  show To _ _ _ _ _ (TX49_32 ss kk zs ws g4 g5 g6 gw o4 o5 o6 ow (gxs g0 i) (rndsLaw 32 4294967296 [2, 13, 22] [6, 11, 25] ws x0 i)) _ _ (TX49_32 ss kk zs ws g4 g5 g6 gw o4 o5 o6 ow 0 (rndLaw 32 4294967296 [2, 13, 22] [6, 11, 25] (cLaw 32 i) (ws.getD i 0) (rndsLaw 32 4294967296 [2, 13, 22] [6, 11, 25] ws x0 i)))
  generalize rndsLaw 32 4294967296 [2, 13, 22] [6, 11, 25] ws x0 i = r at hrl hrw ⊢
  generalize gxs g0 i = gx
  generalize cxs c0 i = cx
  obtain ⟨y0, y1, y2, y3, y4, y5, y6, y7, rfl⟩ := list8 hrl
  have hkl : kk.length = 80 := by rw [hk]; kernel_rfl
  have b0 : Wd 32 y0 := hrw 0
  have c0 : Wd 64 y0 := b0.up
  have b1 : Wd 32 y1 := hrw 1
  have c1 : Wd 64 y1 := b1.up
  have b2 : Wd 32 y2 := hrw 2
  have c2 : Wd 64 y2 := b2.up
  have b3 : Wd 32 y3 := hrw 3
  have c3 : Wd 64 y3 := b3.up
  have b4 : Wd 32 y4 := hrw 4
  have c4 : Wd 64 y4 := b4.up
  have b5 : Wd 32 y5 := hrw 5
  have c5 : Wd 64 y5 := b5.up
  have b6 : Wd 32 y6 := hrw 6
  have c6 : Wd 64 y6 := b6.up
  have b7 : Wd 32 y7 := hrw 7
  have c7 : Wd 64 y7 := b7.up
  have hu : Wd 64 (18446744073709551615 - y4) := ⟨by have := c4.2; rw [show (2 : Int) ^ 64 = 18446744073709551616 by decide] at this; omega, by have := c4.1; rw [show (2 : Int) ^ 64 = 18446744073709551616 by decide]; omega⟩
  refine To.ofG (o := G49_32 i y0 y1 y2 y3 y4 y5 y6 y7 ss kk zs ws g4 g5 g6 gw gx cp ck cx o4 o5 o6 ow) eT32_ok hmS (Nat.le_refl 9) OrcOk.nil rfl (G49_32_ok ?_) G49_32_ex (by rw [G49_32_fm]; rfl) ?_
  · have hz' := zz32
    have i2 : highIxLaw 2 := .inl rfl
    have i3 : highIxLaw 3 := .inr rfl
    have kc : Wd 64 (kk.getD i 0) := by
      rw [hk]; have := cubes_rng i; exact ⟨this.1, by rw [show (2 : Int) ^ 64 = 18446744073709551616 by decide]; exact this.2⟩
    have wc : Wd 64 (ws.getD i 0) := (hww i).up
    have hd : ∀ (x d : Int), Wd 64 x → 0 < d → Wd 64 (x / d) := fun x d hx h => hx.divk h
    have hm : ∀ y : Int, Wd 64 (y % 18446744073709551616) := fun y => by have := Wd.mod 64 y; rwa [show (2 : Int) ^ 64 = 18446744073709551616 by decide] at this
    simp only [allP, Con.h, nn_64, Int.toNat_natCast, hz', i2, i3, hkl, hwl, hm, c0, c1, c2, c3, c4, c5, c6, c7, decide_eq_true_eq, eq_self, true_and, and_true]
    repeat' with_reducible apply And.intro
    all_goals first | omega | exact b0.1 | exact b0.2 | exact b4.1 | exact b4.2 | exact b0 | exact b4 | skip
    all_goals repeat' (first | exact c0 | exact c1 | exact c2 | exact c3 | exact c4 | exact c5 | exact c6 | exact c7 | exact hu | exact kc | exact wc | exact hm _ | apply Wd.ixor | apply Wd.iand | (refine hd _ _ ?_ (by decide)))
  · rw [G49_32_tab, Int.toNat_natCast, ← rnd49_32 hk hrw]
    rfl
/-! width 64 -/
def FX49_64 (g4 g5 gw gx : Nat) (cp ck cx : Option Nat) (t : Nat) : Fm := [(1, .slice 1 4 g4 0 8 cp), (2, .slice 1 5 g5 0 80 ck), (4, .var 7 0), (9, .slice 1 8 gw 0 80 none), (10, .slice 1 9 gx 0 8 cx), (11, .int .i64 t)]
def TX49_64 (ss kk zs ws : List Int) (g4 g5 g6 gw : Nat) (o4 o5 o6 ow : Bool) (gx : Nat) (xs : List Int) : Tab := [some ⟨.ints .i64 [1, 8, 7], 0, false, 3⟩, some ⟨.ints .i64 [19, 61, 6], 0, false, 3⟩, some ⟨.ints .i64 [28, 34, 39], 0, false, 3⟩, some ⟨.ints .i64 [14, 18, 41], 0, false, 3⟩, some ⟨.ints .u64 ss, g4, o4, 56⟩, some ⟨.ints .u64 kk, g5, o5, 56⟩, some ⟨.ints .u8 zs, g6, o6, 5⟩, some ⟨.agg [.int .i64 64, .int .i64 128, .int .i64 80, .slice 1 0 0 0 3 (some 3), .slice 1 1 0 0 3 (some 3), .slice 1 2 0 0 3 (some 3), .slice 1 3 0 0 3 (some 3)], 0, true, 54⟩, some ⟨.ints .u64 ws, gw, ow, 56⟩, some ⟨.ints .u64 xs, gx, true, 56⟩]
theorem rnd49_64 {kk ws : List Int} {t : Nat} {y0 y1 y2 y3 y4 y5 y6 y7 : Int} (hk : kk = cubesLaw) (hy : Wds 64 [y0, y1, y2, y3, y4, y5, y6, y7]) :
    [(((((y7 + highLaw 64 [14, 18, 41] y4) % 18446744073709551616 + ixor (iand y4 y5) (iand (18446744073709551615 - y4) y6)) % 18446744073709551616 + kk.getD t 0 / 1) % 18446744073709551616 + ws.getD t 0) % 18446744073709551616 + (highLaw 64 [28, 34, 39] y0 + ixor (ixor (iand y0 y1) (iand y0 y2)) (iand y1 y2)) % 18446744073709551616) % 18446744073709551616, y0, y1, y2, (y3 + ((((y7 + highLaw 64 [14, 18, 41] y4) % 18446744073709551616 + ixor (iand y4 y5) (iand (18446744073709551615 - y4) y6)) % 18446744073709551616 + kk.getD t 0 / 1) % 18446744073709551616 + ws.getD t 0) % 18446744073709551616) % 18446744073709551616, y4, y5, y6] = rndLaw 64 18446744073709551616 [28, 34, 39] [14, 18, 41] (cLaw 64 t) (ws.getD t 0) [y0, y1, y2, y3, y4, y5, y6, y7] := by
  subst hk
  rw [kk64]
  rfl
theorem loopG49_64 {ss kk zs ws : List Int} {g4 g5 g6 gw : Nat} {cp ck : Option Nat} {o4 o5 o6 ow : Bool} {g0 : Nat} {c0 : Option Nat} {x0 : List Int} (hk : kk = cubesLaw) (hwl : ws.length = 80) (hww : Wds 64 ws) (hxl : x0.length = 8) (hx : Wds 64 x0) :
    To eT64 157 9 (.block 0 (.loop (roundOf 0 f49))) (FX49_64 g4 g5 gw g0 cp ck c0 0) (TX49_64 ss kk zs ws g4 g5 g6 gw o4 o5 o6 ow g0 x0) .normal [(1, .slice 1 4 g4 0 8 cp), (4, .var 7 0), (10, .slice 1 9 0 0 8 (some 8))] (TX49_64 ss kk zs ws g4 g5 g6 gw o4 o5 o6 ow 0 (rndsLaw 64 18446744073709551616 [28, 34, 39] [14, 18, 41] ws x0 80)) := by
  refine To.rounds (fun i => FX49_64 g4 g5 gw (gxs g0 i) cp ck (cxs c0 i) i) (fun i => TX49_64 ss kk zs ws g4 g5 g6 gw o4 o5 o6 ow (gxs g0 i) (rndsLaw 64 18446744073709551616 [28, 34, 39] [14, 18, 41] ws x0 i)) 80 (fun i hi => ?_)
    (To.of (o := H49_64 (80 : Nat) ss kk zs ws (rndsLaw 64 18446744073709551616 [28, 34, 39] [14, 18, 41] ws x0 80) g4 g5 g6 gw 0 cp ck (some 8) o4 o5 o6 ow) eT64_ok hmS (Nat.le_refl 9) OrcOk.nil rfl (H49_64_ok (by simp [allP, Con.h])) H49_64_ex H49_64_fm H49_64_tab)
  have hrl := rnds_len (W := 64) (m := 18446744073709551616) (u0 := [28, 34, 39]) (u1 := [14, 18, 41]) (ws := ws) hxl i
  have hrw := rnds_wds (W := 64) (m := 18446744073709551616) (by decide) (u0 := [28, 34, 39]) (u1 := [14, 18, 41]) (ws := ws) hx i
  show To _ _ _ _ _ (TX49_64 ss kk zs ws g4 g5 g6 gw o4 o5 o6 ow (gxs g0 i) (rndsLaw 64 18446744073709551616 [28, 34, 39] [14, 18, 41] ws x0 i)) _ _ (TX49_64 ss kk zs ws g4 g5 g6 gw o4 o5 o6 ow 0 (rndLaw 64 18446744073709551616 [28, 34, 39] [14, 18, 41] (cLaw 64 i) (ws.getD i 0) (rndsLaw 64 18446744073709551616 [28, 34, 39] [14, 18, 41] ws x0 i)))
  generalize rndsLaw 64 18446744073709551616 [28, 34, 39] [14, 18, 41] ws x0 i = r at hrl hrw ⊢
  generalize gxs g0 i = gx
  generalize cxs c0 i = cx
  obtain ⟨y0, y1, y2, y3, y4, y5, y6, y7, rfl⟩ := list8 hrl
  have hkl : kk.length = 80 := by rw [hk]; kernel_rfl
  have b0 : Wd 64 y0 := hrw 0
  have c0 : Wd 64 y0 := b0
  have b1 : Wd 64 y1 := hrw 1
  have c1 : Wd 64 y1 := b1
  have b2 : Wd 64 y2 := hrw 2
  have c2 : Wd 64 y2 := b2
  have b3 : Wd 64 y3 := hrw 3
  have c3 : Wd 64 y3 := b3
  have b4 : Wd 64 y4 := hrw 4
  have c4 : Wd 64 y4 := b4
  have b5 : Wd 64 y5 := hrw 5
  have c5 : Wd 64 y5 := b5
  have b6 : Wd 64 y6 := hrw 6
  have c6 : Wd 64 y6 := b6
  have b7 : Wd 64 y7 := hrw 7
  have c7 : Wd 64 y7 := b7
  have hu : Wd 64 (18446744073709551615 - y4) := ⟨by have := c4.2; rw [show (2 : Int) ^ 64 = 18446744073709551616 by decide] at this; omega, by have := c4.1; rw [show (2 : Int) ^ 64 = 18446744073709551616 by decide]; omega⟩
  refine To.ofG (o := G49_64 i y0 y1 y2 y3 y4 y5 y6 y7 ss kk zs ws g4 g5 g6 gw gx cp ck cx o4 o5 o6 ow) eT64_ok hmS (Nat.le_refl 9) OrcOk.nil rfl (G49_64_ok ?_) G49_64_ex (by rw [G49_64_fm]; rfl) ?_
  · have hz' := zz64
    have i2 : highIxLaw 2 := .inl rfl
    have i3 : highIxLaw 3 := .inr rfl
    have kc : Wd 64 (kk.getD i 0) := by
      rw [hk]; have := cubes_rng i; exact ⟨this.1, by rw [show (2 : Int) ^ 64 = 18446744073709551616 by decide]; exact this.2⟩
    have wc : Wd 64 (ws.getD i 0) := hww i
    have hd : ∀ (x d : Int), Wd 64 x → 0 < d → Wd 64 (x / d) := fun x d hx h => hx.divk h
    have hm : ∀ y : Int, Wd 64 (y % 18446744073709551616) := fun y => by have := Wd.mod 64 y; rwa [show (2 : Int) ^ 64 = 18446744073709551616 by decide] at this
    simp only [allP, Con.h, nn_64, Int.toNat_natCast, hz', i2, i3, hkl, hwl, hm, c0, c1, c2, c3, c4, c5, c6, c7, decide_eq_true_eq, eq_self, true_and, and_true]
    repeat' with_reducible apply And.intro
    all_goals first | omega | exact b0.1 | exact b0.2 | exact b4.1 | exact b4.2 | exact b0 | exact b4 | skip
    all_goals repeat' (first | exact c0 | exact c1 | exact c2 | exact c3 | exact c4 | exact c5 | exact c6 | exact c7 | exact hu | exact kc | exact wc | exact hm _ | apply Wd.ixor | apply Wd.iand | (refine hd _ _ ?_ (by decide)))
  · rw [G49_64_tab, Int.toNat_natCast, ← rnd49_64 hk hrw]
    rfl
end Go.Abs

set_option linter.unusedVariables false
set_option linter.unusedSimpArgs false
set_option maxRecDepth 8000
set_option maxHeartbeats 4000000
namespace Go.Abs
open Go.Proofs Go.Proofs.Tryd
/-! ### the document's block -/
def mixLaw (f g : Nat → Int) (i : Nat) : List Int := (List.range 8).map fun j => if j < i then f j else g j
theorem mix_len (f g : Nat → Int) (i : Nat) : (mixLaw f g i).length = 8 := by simp [mixLaw]
theorem mix_set (f g : Nat → Int) {i : Nat} (hi : i < 8) : (mixLaw f g i).set i (f i) = mixLaw f g (i + 1) := by
  match i, hi with
  | 0, _ => rfl
  | 1, _ => rfl
  | 2, _ => rfl
  | 3, _ => rfl
  | 4, _ => rfl
  | 5, _ => rfl
  | 6, _ => rfl
  | 7, _ => rfl
theorem mix_get (f g : Nat → Int) {i : Nat} (hi : i < 8) : (mixLaw f g i).getD i 0 = g i := by
  match i, hi with
  | 0, _ => rfl
  | 1, _ => rfl
  | 2, _ => rfl
  | 3, _ => rfl
  | 4, _ => rfl
  | 5, _ => rfl
  | 6, _ => rfl
  | 7, _ => rfl
theorem mix_zero (f : Nat → Int) {l : List Int} (h : l.length = 8) : mixLaw f (fun j => l.getD j 0) 0 = l := by
  obtain ⟨a0, a1, a2, a3, a4, a5, a6, a7, rfl⟩ := list8 h
  rfl
/-! width 32 -/
def addx32Law (ss xs : List Int) : List Int := mixLaw (fun j => (ss.getD j 0 + xs.getD j 0) % 4294967296) (fun j => xs.getD j 0) 8
def rndx32Law (ws xs : List Int) : List Int := rndsLaw 32 4294967296 [2, 13, 22] [6, 11, 25] ws xs 64
def TX32 (ss kk zs ws xs : List Int) (g4 g5 g6 gw gx : Nat) (o4 o5 o6 ow : Bool) : Tab := [some ⟨.ints .i64 [7, 18, 3], 0, false, 3⟩, some ⟨.ints .i64 [17, 19, 10], 0, false, 3⟩, some ⟨.ints .i64 [2, 13, 22], 0, false, 3⟩, some ⟨.ints .i64 [6, 11, 25], 0, false, 3⟩, some ⟨.ints .u64 ss, g4, o4, 56⟩, some ⟨.ints .u64 kk, g5, o5, 56⟩, some ⟨.ints .u8 zs, g6, o6, 5⟩, some ⟨.agg [.int .i64 32, .int .i64 64, .int .i64 64, .slice 1 0 0 0 3 (some 3), .slice 1 1 0 0 3 (some 3), .slice 1 2 0 0 3 (some 3), .slice 1 3 0 0 3 (some 3)], 0, true, 54⟩, some ⟨.ints .u64 ws, gw, ow, 56⟩, some ⟨.ints .u64 xs, gx, true, 56⟩]
noncomputable def gG49_32c (vs : List AVal) (T : Tab) (ss : List Int) (kk : List Int) (zs : List Int) (ws : List Int) (xs : List Int) (g4 : Nat) (g5 : Nat) (g6 : Nat) (gw : Nat) (gx : Nat) (o4 : Bool) (o5 : Bool) (o6 : Bool) (ow : Bool) (cp : Option Nat) (ck : Option Nat) (cx : Option Nat) : Out := ⟨[.tab T (TX32 ss kk zs ws xs g4 g5 g6 gw gx o4 o5 o6 ow), .val (.tuple vs) (.tuple [.slice 1 4 g4 0 8 cp, .slice 1 5 g5 0 80 ck, .var 7 0, .slice 1 8 gw 0 64 none, .slice 1 9 gx 0 8 cx, .int .i64 0]), .p (isCubesLaw kk), .eqN ws.length 64, .p (WdsLaw 32 ws), .eqN xs.length 8, .p (WdsLaw 32 xs)], .normal, [(1, .slice 1 4 g4 0 8 cp), (4, .var 7 0), (10, .slice 1 9 0 0 8 (some 8))], TX32 ss kk zs ws (rndx32Law ws xs) g4 g5 g6 gw 0 o4 o5 o6 ow, []⟩
theorem gG49_32c_ok {vs : List AVal} {T : Tab} {ss : List Int} {kk : List Int} {zs : List Int} {ws : List Int} {xs : List Int} {g4 : Nat} {g5 : Nat} {g6 : Nat} {gw : Nat} {gx : Nat} {o4 : Bool} {o5 : Bool} {o6 : Bool} {ow : Bool} {cp : Option Nat} {ck : Option Nat} {cx : Option Nat} (h : Ok (gG49_32c vs T ss kk zs ws xs g4 g5 g6 gw gx o4 o5 o6 ow cp ck cx)) : To eT32 157 9 (.block 0 (.loop (roundOf 0 f49))) (zipF [1,2,4,9,10,11] vs) T (gG49_32c vs T ss kk zs ws xs g4 g5 g6 gw gx o4 o5 o6 ow cp ck cx).ex (gG49_32c vs T ss kk zs ws xs g4 g5 g6 gw gx o4 o5 o6 ow cp ck cx).fm (gG49_32c vs T ss kk zs ws xs g4 g5 g6 gw gx o4 o5 o6 ow cp ck cx).tab := by
  obtain ⟨hT, hv, h1, h2, h3, h4, h5, _⟩ := h.h
  simp only [Con.h] at hT hv h1 h2 h3 h4 h5
  injection hv with hv
  subst hT hv
  exact loopG49_32 h1 h2 h3 h4 h5
noncomputable def gG49_32 : List AVal → Tab → Out := fun vs T => gG49_32c vs T (xsAt T 4) (xsAt T 5) (xsAt T 6) (xsAt T 8) (xsAt T 9) (gAt T 4) (gAt T 5) (gAt T 6) (gAt T 8) (gAt T 9) (owAt T 4) (owAt T 5) (owAt T 6) (owAt T 8) (capOf (vAt vs 0)) (capOf (vAt vs 1)) (capOf (vAt vs 4))
theorem gG49_32_ok : BlkOk eT32 f49 0 (.loop (roundOf 0 f49)) (blkS2 9 10 [1,2,4,9,10,11] gG49_32) := blkS2_ok fun vs T h => gG49_32c_ok h
def FI49_32 (g4 gx : Nat) (cp cx : Option Nat) (i : Nat) : Fm := [(1, .slice 1 4 g4 0 8 cp), (4, .var 7 0), (10, .slice 1 9 gx 0 8 cx), (15, .int .i64 i)]
theorem loopI49_32 {ss kk zs ws : List Int} {g4 g5 g6 gw : Nat} {cp : Option Nat} {o4 o5 o6 ow : Bool} {gx : Nat} {cx : Option Nat} {xs : List Int} (hsl : ss.length = 8) (hxl : xs.length = 8) :
    To eT32 157 10 (.block 2 (.loop (roundOf 2 f49))) (FI49_32 g4 gx cp cx 0) (TX49_32 ss kk zs ws g4 g5 g6 gw o4 o5 o6 ow gx xs) .normal [(10, .slice 1 9 gx 0 8 cx)] (TX49_32 ss kk zs ws g4 g5 g6 gw o4 o5 o6 ow gx (mixLaw (fun j => (ss.getD j 0 + xs.getD j 0) % 4294967296) (fun j => xs.getD j 0) 8)) := by
  refine To.start (T0 := TX49_32 ss kk zs ws g4 g5 g6 gw o4 o5 o6 ow gx (mixLaw (fun j => (ss.getD j 0 + xs.getD j 0) % 4294967296) (fun j => xs.getD j 0) 0)) (by rw [mix_zero _ hxl]) ?_
  refine To.rounds (FI49_32 g4 gx cp cx) (fun i => TX49_32 ss kk zs ws g4 g5 g6 gw o4 o5 o6 ow gx (mixLaw (fun j => (ss.getD j 0 + xs.getD j 0) % 4294967296) (fun j => xs.getD j 0) i)) 8 (fun i hi => ?_)
    (To.of (o := J49_32 (8 : Nat) ss kk zs ws (mixLaw (fun j => (ss.getD j 0 + xs.getD j 0) % 4294967296) (fun j => xs.getD j 0) 8) g4 g5 g6 gw gx cp none cx o4 o5 o6 ow) eT32_ok hmS (Nat.le_refl 10) OrcOk.nil rfl (J49_32_ok (by simp [allP, Con.h])) J49_32_ex J49_32_fm J49_32_tab)
  have hl := mix_len (fun j => (ss.getD j 0 + xs.getD j 0) % 4294967296) (fun j => xs.getD j 0) i
  have hg := mix_get (fun j => (ss.getD j 0 + xs.getD j 0) % 4294967296) (fun j => xs.getD j 0) hi
  refine To.of (o := I49_32 i ss kk zs ws (mixLaw (fun j => (ss.getD j 0 + xs.getD j 0) % 4294967296) (fun j => xs.getD j 0) i) g4 g5 g6 gw gx cp none cx o4 o5 o6 ow) eT32_ok hmS (Nat.le_refl 10) OrcOk.nil rfl (I49_32_ok ?_) I49_32_ex (by rw [I49_32_fm]; rfl) ?_
  · have hm : ∀ y : Int, Wd 64 (y % 18446744073709551616) := fun y => by have := Wd.mod 64 y; rwa [show (2 : Int) ^ 64 = 18446744073709551616 by decide] at this
    simp only [allP, Con.h, nn_64, Int.toNat_natCast, hl, hsl, hg, hm, decide_eq_true_eq, eq_self, true_and, and_true]
    omega
  · rw [I49_32_tab, Int.toNat_natCast, hg, sum2_32, Int.add_comm (xs.getD i 0)]
    show TX49_32 ss kk zs ws g4 g5 g6 gw o4 o5 o6 ow gx ((mixLaw (fun j => (ss.getD j 0 + xs.getD j 0) % 4294967296) (fun j => xs.getD j 0) i).set i ((fun j => (ss.getD j 0 + xs.getD j 0) % 4294967296) i)) = _
    rw [mix_set _ _ hi]
noncomputable def gI49_32c (vs : List AVal) (T : Tab) (ss : List Int) (kk : List Int) (zs : List Int) (ws : List Int) (xs : List Int) (g4 : Nat) (g5 : Nat) (g6 : Nat) (gw : Nat) (gx : Nat) (o4 : Bool) (o5 : Bool) (o6 : Bool) (ow : Bool) (cp : Option Nat) (cx : Option Nat) : Out := ⟨[.tab T (TX32 ss kk zs ws xs g4 g5 g6 gw gx o4 o5 o6 ow), .val (.tuple vs) (.tuple [.slice 1 4 g4 0 8 cp, .var 7 0, .slice 1 9 gx 0 8 cx, .int .i64 0]), .eqN ss.length 8, .eqN xs.length 8], .normal, [(10, .slice 1 9 gx 0 8 cx)], TX32 ss kk zs ws (addx32Law ss xs) g4 g5 g6 gw gx o4 o5 o6 ow, []⟩
theorem gI49_32c_ok {vs : List AVal} {T : Tab} {ss : List Int} {kk : List Int} {zs : List Int} {ws : List Int} {xs : List Int} {g4 : Nat} {g5 : Nat} {g6 : Nat} {gw : Nat} {gx : Nat} {o4 : Bool} {o5 : Bool} {o6 : Bool} {ow : Bool} {cp : Option Nat} {cx : Option Nat} (h : Ok (gI49_32c vs T ss kk zs ws xs g4 g5 g6 gw gx o4 o5 o6 ow cp cx)) : To eT32 157 10 (.block 2 (.loop (roundOf 2 f49))) (zipF [1,4,10,15] vs) T (gI49_32c vs T ss kk zs ws xs g4 g5 g6 gw gx o4 o5 o6 ow cp cx).ex (gI49_32c vs T ss kk zs ws xs g4 g5 g6 gw gx o4 o5 o6 ow cp cx).fm (gI49_32c vs T ss kk zs ws xs g4 g5 g6 gw gx o4 o5 o6 ow cp cx).tab := by
  obtain ⟨hT, hv, h1, h2, _⟩ := h.h
  simp only [Con.h] at hT hv h1 h2
  injection hv with hv
  subst hT hv
  exact loopI49_32 h1 h2
noncomputable def gI49_32 : List AVal → Tab → Out := fun vs T => gI49_32c vs T (xsAt T 4) (xsAt T 5) (xsAt T 6) (xsAt T 8) (xsAt T 9) (gAt T 4) (gAt T 5) (gAt T 6) (gAt T 8) (gAt T 9) (owAt T 4) (owAt T 5) (owAt T 6) (owAt T 8) (capOf (vAt vs 0)) (capOf (vAt vs 2))
theorem gI49_32_ok : BlkOk eT32 f49 2 (.loop (roundOf 2 f49)) (blkS 10 [1,4,10,15] gI49_32) := blkS_ok fun vs T h => gI49_32c_ok h
noncomputable def orc49_32 : OrcL := [(0, blkS2 9 10 [1,2,4,9,10,11] gG49_32), (2, blkS 10 [1,4,10,15] gI49_32)]
theorem orc49_32_ok : FnOrc eT32 f49 orc49_32 := FnOrc.cons gG49_32_ok (by kernel_rfl) (FnOrc.cons gI49_32_ok (by kernel_rfl) FnOrc.nil)
noncomputable def R49_32 (ss kk zs : List Int) (g4 g5 g6 off : Nat) (cp ck : Option Nat) : Res := resG 7 [0, 1, 2, 3, 4, 5, 6, 9] (runF eT32 f49 orc49_32 1000 [.agg [.int .i64 32, .int .i64 64, .int .i64 64, .slice 1 0 0 0 3 (some 3), .slice 1 1 0 0 3 (some 3), .slice 1 2 0 0 3 (some 3), .slice 1 3 0 0 3 (some 3)], .slice 1 4 g4 0 8 cp, .slice 1 5 g5 0 80 ck, .slice 1 6 g6 off 64 none] [some ⟨.ints .i64 [7, 18, 3], 0, false, 3⟩, some ⟨.ints .i64 [17, 19, 10], 0, false, 3⟩, some ⟨.ints .i64 [2, 13, 22], 0, false, 3⟩, some ⟨.ints .i64 [6, 11, 25], 0, false, 3⟩, some ⟨.ints .u64 ss, g4, false, 56⟩, some ⟨.ints .u64 kk, g5, false, 56⟩, some ⟨.ints .u8 zs, g6, false, 5⟩] [])
theorem R49_32_ok {ss kk zs : List Int} {g4 g5 g6 off : Nat} {cp ck : Option Nat} (h : allP [.eqN g6 g6, .p (zz32Law [7, 18, 3] [17, 19, 10] [2, 13, 22] [6, 11, 25]), .eqN g6 g6, .leN (off + 64) zs.length, .p (BsLaw zs), .eqN g4 g4, .leN 8 ss.length, .p (isCubesLaw kk), .p (WdsLaw 32 (schLaw 32 4294967296 [7, 18, 3] [17, 19, 10] (wordsLaw 4 zs off 16) 48)), .eqN ([] ++ List.take 8 ss).length 8, .p
 (WdsLaw 32 ([] ++ List.take 8 ss)), .eqN ss.length 8]) : OkR (R49_32 ss kk zs g4 g5 g6 off cp ck) := OkR.dem (fl := bitsF 33 4331115455) (by kernel_rfl) (by kernel_rfl) (by kernel_rfl) h
theorem R49_32_val {ss kk zs : List Int} {g4 g5 g6 off : Nat} {cp ck : Option Nat} : (R49_32 ss kk zs g4 g5 g6 off cp ck).val = .slice 1 7 0 0 8 (some 8) := by kernel_rfl
theorem R49_32_tab {ss kk zs : List Int} {g4 g5 g6 off : Nat} {cp ck : Option Nat} : (R49_32 ss kk zs g4 g5 g6 off cp ck).tab = [some ⟨.ints .i64 [7, 18, 3], 0, false, 3⟩, some ⟨.ints .i64 [17, 19, 10], 0, false, 3⟩, some ⟨.ints .i64 [2, 13, 22], 0, false, 3⟩, some ⟨.ints .i64 [6, 11, 25], 0, false, 3⟩, some ⟨.ints .u64 ss, g4, false, 56⟩, some ⟨.ints .u64 kk, g5, false, 56⟩, some ⟨.ints .u8 zs,
 g6, false, 5⟩, some ⟨.ints .u64 (addx32Law ss (rndx32Law (schLaw 32 4294967296 [7, 18, 3] [17, 19, 10] (wordsLaw 4 zs off 16) 48) ([] ++ List.take 8 ss))), 0, true, 56⟩] := by kernel_rfl
/-! width 64 -/
def addx64Law (ss xs : List Int) : List Int := mixLaw (fun j => (ss.getD j 0 + xs.getD j 0) % 18446744073709551616) (fun j => xs.getD j 0) 8
def rndx64Law (ws xs : List Int) : List Int := rndsLaw 64 18446744073709551616 [28, 34, 39] [14, 18, 41] ws xs 80
def TX64 (ss kk zs ws xs : List Int) (g4 g5 g6 gw gx : Nat) (o4 o5 o6 ow : Bool) : Tab := [some ⟨.ints .i64 [1, 8, 7], 0, false, 3⟩, some ⟨.ints .i64 [19, 61, 6], 0, false, 3⟩, some ⟨.ints .i64 [28, 34, 39], 0, false, 3⟩, some ⟨.ints .i64 [14, 18, 41], 0, false, 3⟩, some ⟨.ints .u64 ss, g4, o4, 56⟩, some ⟨.ints .u64 kk, g5, o5, 56⟩, some ⟨.ints .u8 zs, g6, o6, 5⟩, some ⟨.agg [.int .i64 64, .int .i64 128, .int .i64 80, .slice 1 0 0 0 3 (some 3), .slice 1 1 0 0 3 (some 3), .slice 1 2 0 0 3 (some 3), .slice 1 3 0 0 3 (some 3)], 0, true, 54⟩, some ⟨.ints .u64 ws, gw, ow, 56⟩, some ⟨.ints .u64 xs, gx, true, 56⟩]
noncomputable def gG49_64c (vs : List AVal) (T : Tab) (ss : List Int) (kk : List Int) (zs : List Int) (ws : List Int) (xs : List Int) (g4 : Nat) (g5 : Nat) (g6 : Nat) (gw : Nat) (gx : Nat) (o4 : Bool) (o5 : Bool) (o6 : Bool) (ow : Bool) (cp : Option Nat) (ck : Option Nat) (cx : Option Nat) : Out := ⟨[.tab T (TX64 ss kk zs ws xs g4 g5 g6 gw gx o4 o5 o6 ow), .val (.tuple vs) (.tuple [.slice 1 4 g4 0 8 cp, .slice 1 5 g5 0 80 ck, .var 7 0, .slice 1 8 gw 0 80 none, .slice 1 9 gx 0 8 cx, .int .i64 0]), .p (isCubesLaw kk), .eqN ws.length 80, .p (WdsLaw 64 ws), .eqN xs.length 8, .p (WdsLaw 64 xs)], .normal, [(1, .slice 1 4 g4 0 8 cp), (4, .var 7 0), (10, .slice 1 9 0 0 8 (some 8))], TX64 ss kk zs ws (rndx64Law ws xs) g4 g5 g6 gw 0 o4 o5 o6 ow, []⟩
theorem gG49_64c_ok {vs : List AVal} {T : Tab} {ss : List Int} {kk : List Int} {zs : List Int} {ws : List Int} {xs : List Int} {g4 : Nat} {g5 : Nat} {g6 : Nat} {gw : Nat} {gx : Nat} {o4 : Bool} {o5 : Bool} {o6 : Bool} {ow : Bool} {cp : Option Nat} {ck : Option Nat} {cx : Option Nat} (h : Ok (gG49_64c vs T ss kk zs ws xs g4 g5 g6 gw gx o4 o5 o6 ow cp ck cx)) : To eT64 157 9 (.block 0 (.loop (roundOf 0 f49))) (zipF [1,2,4,9,10,11] vs) T (gG49_64c vs T ss kk zs ws xs g4 g5 g6 gw gx o4 o5 o6 ow cp ck cx).ex (gG49_64c vs T ss kk zs ws xs g4 g5 g6 gw gx o4 o5 o6 ow cp ck cx).fm (gG49_64c vs T ss kk zs ws xs g4 g5 g6 gw gx o4 o5 o6 ow cp ck cx).tab := by
  obtain ⟨hT, hv, h1, h2, h3, h4, h5, _⟩ := h.h
  simp only [Con.h] at hT hv h1 h2 h3 h4 h5
  injection hv with hv
  subst hT hv
  exact loopG49_64 h1 h2 h3 h4 h5
noncomputable def gG49_64 : List AVal → Tab → Out := fun vs T => gG49_64c vs T (xsAt T 4) (xsAt T 5) (xsAt T 6) (xsAt T 8) (xsAt T 9) (gAt T 4) (gAt T 5) (gAt T 6) (gAt T 8) (gAt T 9) (owAt T 4) (owAt T 5) (owAt T 6) (owAt T 8) (capOf (vAt vs 0)) (capOf (vAt vs 1)) (capOf (vAt vs 4))
theorem gG49_64_ok : BlkOk eT64 f49 0 (.loop (roundOf 0 f49)) (blkS2 9 10 [1,2,4,9,10,11] gG49_64) := blkS2_ok fun vs T h => gG49_64c_ok h
def FI49_64 (g4 gx : Nat) (cp cx : Option Nat) (i : Nat) : Fm := [(1, .slice 1 4 g4 0 8 cp), (4, .var 7 0), (10, .slice 1 9 gx 0 8 cx), (15, .int .i64 i)]
theorem loopI49_64 {ss kk zs ws : List Int} {g4 g5 g6 gw : Nat} {cp : Option Nat} {o4 o5 o6 ow : Bool} {gx : Nat} {cx : Option Nat} {xs : List Int} (hsl : ss.length = 8) (hxl : xs.length = 8) :
    To eT64 157 10 (.block 2 (.loop (roundOf 2 f49))) (FI49_64 g4 gx cp cx 0) (TX49_64 ss kk zs ws g4 g5 g6 gw o4 o5 o6 ow gx xs) .normal [(10, .slice 1 9 gx 0 8 cx)] (TX49_64 ss kk zs ws g4 g5 g6 gw o4 o5 o6 ow gx (mixLaw (fun j => (ss.getD j 0 + xs.getD j 0) % 18446744073709551616) (fun j => xs.getD j 0) 8)) := by
  refine To.start (T0 := TX49_64 ss kk zs ws g4 g5 g6 gw o4 o5 o6 ow gx (mixLaw (fun j => (ss.getD j 0 + xs.getD j 0) % 18446744073709551616) (fun j => xs.getD j 0) 0)) (by rw [mix_zero _ hxl]) ?_
  refine To.rounds (FI49_64 g4 gx cp cx) (fun i => TX49_64 ss kk zs ws g4 g5 g6 gw o4 o5 o6 ow gx (mixLaw (fun j => (ss.getD j 0 + xs.getD j 0) % 18446744073709551616) (fun j => xs.getD j 0) i)) 8 (fun i hi => ?_)
    (To.of (o := J49_64 (8 : Nat) ss kk zs ws (mixLaw (fun j => (ss.getD j 0 + xs.getD j 0) % 18446744073709551616) (fun j => xs.getD j 0) 8) g4 g5 g6 gw gx cp none cx o4 o5 o6 ow) eT64_ok hmS (Nat.le_refl 10) OrcOk.nil rfl (J49_64_ok (by simp [allP, Con.h])) J49_64_ex J49_64_fm J49_64_tab)
  have hl := mix_len (fun j => (ss.getD j 0 + xs.getD j 0) % 18446744073709551616) (fun j => xs.getD j 0) i
  have hg := mix_get (fun j => (ss.getD j 0 + xs.getD j 0) % 18446744073709551616) (fun j => xs.getD j 0) hi
  refine To.of (o := I49_64 i ss kk zs ws (mixLaw (fun j => (ss.getD j 0 + xs.getD j 0) % 18446744073709551616) (fun j => xs.getD j 0) i) g4 g5 g6 gw gx cp none cx o4 o5 o6 ow) eT64_ok hmS (Nat.le_refl 10) OrcOk.nil rfl (I49_64_ok ?_) I49_64_ex (by rw [I49_64_fm]; rfl) ?_
  · have hm : ∀ y : Int, Wd 64 (y % 18446744073709551616) := fun y => by have := Wd.mod 64 y; rwa [show (2 : Int) ^ 64 = 18446744073709551616 by decide] at this
    simp only [allP, Con.h, nn_64, Int.toNat_natCast, hl, hsl, hg, hm, decide_eq_true_eq, eq_self, true_and, and_true]
    omega
  · rw [I49_64_tab, Int.toNat_natCast, hg, Int.add_comm (xs.getD i 0)]
    show TX49_64 ss kk zs ws g4 g5 g6 gw o4 o5 o6 ow gx ((mixLaw (fun j => (ss.getD j 0 + xs.getD j 0) % 18446744073709551616) (fun j => xs.getD j 0) i).set i ((fun j => (ss.getD j 0 + xs.getD j 0) % 18446744073709551616) i)) = _
    rw [mix_set _ _ hi]
noncomputable def gI49_64c (vs : List AVal) (T : Tab) (ss : List Int) (kk : List Int) (zs : List Int) (ws : List Int) (xs : List Int) (g4 : Nat) (g5 : Nat) (g6 : Nat) (gw : Nat) (gx : Nat) (o4 : Bool) (o5 : Bool) (o6 : Bool) (ow : Bool) (cp : Option Nat) (cx : Option Nat) : Out := ⟨[.tab T (TX64 ss kk zs ws xs g4 g5 g6 gw gx o4 o5 o6 ow), .val (.tuple vs) (.tuple [.slice 1 4 g4 0 8 cp, .var 7 0, .slice 1 9 gx 0 8 cx, .int .i64 0]), .eqN ss.length 8, .eqN xs.length 8], .normal, [(10, .slice 1 9 gx 0 8 cx)], TX64 ss kk zs ws (addx64Law ss xs) g4 g5 g6 gw gx o4 o5 o6 ow, []⟩
theorem gI49_64c_ok {vs : List AVal} {T : Tab} {ss : List Int} {kk : List Int} {zs : List Int} {ws : List Int} {xs : List Int} {g4 : Nat} {g5 : Nat} {g6 : Nat} {gw : Nat} {gx : Nat} {o4 : Bool} {o5 : Bool} {o6 : Bool} {ow : Bool} {cp : Option Nat} {cx : Option Nat} (h : Ok (gI49_64c vs T ss kk zs ws xs g4 g5 g6 gw gx o4 o5 o6 ow cp cx)) : To eT64 157 10 (.block 2 (.loop (roundOf 2 f49))) (zipF [1,4,10,15] vs) T (gI49_64c vs T ss kk zs ws xs g4 g5 g6 gw gx o4 o5 o6 ow cp cx).ex (gI49_64c vs T ss kk zs ws xs g4 g5 g6 gw gx o4 o5 o6 ow cp cx).fm (gI49_64c vs T ss kk zs ws xs g4 g5 g6 gw gx o4 o5 o6 ow cp cx).tab := by
  obtain ⟨hT, hv, h1, h2, _⟩ := h.h
  simp only [Con.h] at hT hv h1 h2
  injection hv with hv
  subst hT hv
  exact loopI49_64 h1 h2
noncomputable def gI49_64 : List AVal → Tab → Out := fun vs T => gI49_64c vs T (xsAt T 4) (xsAt T 5) (xsAt T 6) (xsAt T 8) (xsAt T 9) (gAt T 4) (gAt T 5) (gAt T 6) (gAt T 8) (gAt T 9) (owAt T 4) (owAt T 5) (owAt T 6) (owAt T 8) (capOf (vAt vs 0)) (capOf (vAt vs 2))
theorem gI49_64_ok : BlkOk eT64 f49 2 (.loop (roundOf 2 f49)) (blkS 10 [1,4,10,15] gI49_64) := blkS_ok fun vs T h => gI49_64c_ok h
noncomputable def orc49_64 : OrcL := [(0, blkS2 9 10 [1,2,4,9,10,11] gG49_64), (2, blkS 10 [1,4,10,15] gI49_64)]
theorem orc49_64_ok : FnOrc eT64 f49 orc49_64 := FnOrc.cons gG49_64_ok (by kernel_rfl) (FnOrc.cons gI49_64_ok (by kernel_rfl) FnOrc.nil)
noncomputable def R49_64 (ss kk zs : List Int) (g4 g5 g6 off : Nat) (cp ck : Option Nat) : Res := resG 7 [0, 1, 2, 3, 4, 5, 6, 9] (runF eT64 f49 orc49_64 1000 [.agg [.int .i64 64, .int .i64 128, .int .i64 80, .slice 1 0 0 0 3 (some 3), .slice 1 1 0 0 3 (some 3), .slice 1 2 0 0 3 (some 3), .slice 1 3 0 0 3 (some 3)], .slice 1 4 g4 0 8 cp, .slice 1 5 g5 0 80 ck, .slice 1 6 g6 off 128 none] [some ⟨.ints .i64 [1, 8, 7], 0, false, 3⟩, some ⟨.ints .i64 [19, 61, 6], 0, false, 3⟩, some ⟨.ints .i64 [28, 34, 39], 0, false, 3⟩, some ⟨.ints .i64 [14, 18, 41], 0, false, 3⟩, some ⟨.ints .u64 ss, g4, false, 56⟩, some ⟨.ints .u64 kk, g5, false, 56⟩, some ⟨.ints .u8 zs, g6, false, 5⟩] [])
theorem R49_64_ok {ss kk zs : List Int} {g4 g5 g6 off : Nat} {cp ck : Option Nat} (h : allP [.eqN g6 g6, .p (zz64Law [1, 8, 7] [19, 61, 6] [28, 34, 39] [14, 18, 41]), .eqN g6 g6, .leN (off + 128) zs.length, .p (BsLaw zs), .eqN g4 g4, .leN 8 ss.length, .p (isCubesLaw kk), .p (WdsLaw 64 (schLaw 64 18446744073709551616 [1, 8, 7] [19, 61, 6] (wordsLaw 8 zs off 16) 64)), .eqN ([] ++ List.take 8
 ss).length 8, .p (WdsLaw 64 ([] ++ List.take 8 ss)), .eqN ss.length 8]) : OkR (R49_64 ss kk zs g4 g5 g6 off cp ck) := OkR.dem (fl := bitsF 33 4331115455) (by kernel_rfl) (by kernel_rfl) (by kernel_rfl) h
theorem R49_64_val {ss kk zs : List Int} {g4 g5 g6 off : Nat} {cp ck : Option Nat} : (R49_64 ss kk zs g4 g5 g6 off cp ck).val = .slice 1 7 0 0 8 (some 8) := by kernel_rfl
theorem R49_64_tab {ss kk zs : List Int} {g4 g5 g6 off : Nat} {cp ck : Option Nat} : (R49_64 ss kk zs g4 g5 g6 off cp ck).tab = [some ⟨.ints .i64 [1, 8, 7], 0, false, 3⟩, some ⟨.ints .i64 [19, 61, 6], 0, false, 3⟩, some ⟨.ints .i64 [28, 34, 39], 0, false, 3⟩, some ⟨.ints .i64 [14, 18, 41], 0, false, 3⟩, some ⟨.ints .u64 ss, g4, false, 56⟩, some ⟨.ints .u64 kk, g5, false, 56⟩, some ⟨.ints .u8 zs,
 g6, false, 5⟩, some ⟨.ints .u64 (addx64Law ss (rndx64Law (schLaw 64 18446744073709551616 [1, 8, 7] [19, 61, 6] (wordsLaw 8 zs off 16) 64) ([] ++ List.take 8 ss))), 0, true, 56⟩] := by kernel_rfl
end Go.Abs

set_option linter.unusedVariables false
set_option linter.unusedSimpArgs false
set_option maxRecDepth 8000
set_option maxHeartbeats 4000000
namespace Go.Abs
open Go.Proofs Go.Proofs.Tryd
/-! ### the document's block: contract; constants -/
noncomputable def S46 : Summary := sumI modeO (eS0 []) f46 [] 200 [] []
theorem S46_ok : SumOk prog glS 46 S46 := sumI_ok eS0_ok hmS (fn := f46) (by kernel_rfl) (by kernel_rfl) [] FnOrc.nil 200 [] []
noncomputable def S47 : Summary := sumI modeO (eS0 []) f47 [] 200 [] []
theorem S47_ok : SumOk prog glS 47 S47 := sumI_ok eS0_ok hmS (fn := f47) (by kernel_rfl) (by kernel_rfl) [] FnOrc.nil 200 [] []
/-! width 32 -/
def bks32Law (zs : List Int) (off : Nat) (xs : List Int) : List Int := [bkLaw32 zs off xs 0, bkLaw32 zs off xs 1, bkLaw32 zs off xs 2, bkLaw32 zs off xs 3, bkLaw32 zs off xs 4, bkLaw32 zs off xs 5, bkLaw32 zs off xs 6, bkLaw32 zs off xs 7]
theorem bks32_eq (zs : List Int) (off : Nat) (xs : List Int) : addx32Law xs (rndx32Law (schLaw 32 4294967296 [7, 18, 3] [17, 19, 10] (wordsLaw 4 zs off 16) 48) xs) = bks32Law zs off xs := by
  have h1 : wsLaw 32 4294967296 [7, 18, 3] [17, 19, 10] 64 (arrLaw 4 zs off 15 4) = schLaw 32 4294967296 [7, 18, 3] [17, 19, 10] (wordsLaw 4 zs off 16) 48 ++ List.replicate 16 0 := by
    unfold wsLaw
    rw [arrLaw_end, List.take_append_of_le_length (by rw [wordsLaw_len]; exact Nat.le_refl _), List.take_of_length_le (by rw [wordsLaw_len]; exact Nat.le_refl _)]
  have h2 : rndsLaw 32 4294967296 [2, 13, 22] [6, 11, 25] (wsLaw 32 4294967296 [7, 18, 3] [17, 19, 10] 64 (arrLaw 4 zs off 15 4)) xs 64 = rndx32Law (schLaw 32 4294967296 [7, 18, 3] [17, 19, 10] (wordsLaw 4 zs off 16) 48) xs := by
    rw [h1]
    exact rnds_app 64 (by rw [schLaw_len (wordsLaw_len _ _ _ _)]; exact Nat.le_refl _)
  unfold bks32Law bkLaw32 blkAtLaw rndAtLaw
  rw [h2]
  rfl
noncomputable def sm49_32c (args : List AVal) (T : Tab) (ss : List Int) (kk : List Int) (zs : List Int) (g4 : Nat) (g5 : Nat) (g6 : Nat) (off : Nat) (b : Nat) (cp : Option Nat) (ck : Option Nat) : Res := ⟨[.tab T [some ⟨.ints .i64 [7, 18, 3], 0, false, 3⟩, some ⟨.ints .i64 [17, 19, 10], 0, false, 3⟩, some ⟨.ints .i64 [2, 13, 22], 0, false, 3⟩, some ⟨.ints .i64 [6, 11, 25], 0, false, 3⟩, some ⟨.ints .u64 ss, g4, false, 56⟩, some ⟨.ints .u64 kk, g5, false, 56⟩, some ⟨.ints .u8 zs, g6, false, 5⟩], .val (.tuple args) (.tuple [.agg [.int .i64 32, .int .i64 64, .int .i64 64, .slice 1 0 0 0 3 (some 3), .slice 1 1 0 0 3 (some 3), .slice 1 2 0 0 3 (some 3), .slice 1 3 0 0 3 (some 3)], .slice 1 4 g4 0 8 cp, .slice 1 5 g5 0 80 ck, .slice 1 6 g6 off b none]), .eqN b 64, .leN (off + 64) zs.length, .p (BsLaw zs), .p (isCubesLaw kk), .eqN ss.length 8, .p (WdsLaw 32 ss)], .slice 1 7 0 0 8 (some 8), [some ⟨.ints .i64 [7, 18, 3], 0, false, 3⟩, some ⟨.ints .i64 [17, 19, 10], 0, false, 3⟩, some ⟨.ints .i64 [2, 13, 22], 0, false, 3⟩, some ⟨.ints .i64 [6, 11, 25], 0, false, 3⟩, some ⟨.ints .u64 ss, g4, false, 56⟩, some ⟨.ints .u64 kk, g5, false, 56⟩, some ⟨.ints .u8 zs, g6, false, 5⟩, some ⟨.ints .u64 (bks32Law zs off ss), 0, true, 56⟩]⟩
theorem sm49_32c_ok {args : List AVal} {T : Tab} {ss : List Int} {kk : List Int} {zs : List Int} {g4 : Nat} {g5 : Nat} {g6 : Nat} {off : Nat} {b : Nat} {cp : Option Nat} {ck : Option Nat} (h : allP (sm49_32c args T ss kk zs g4 g5 g6 off b cp ck).cs) : Small prog glS 49 args T (sm49_32c args T ss kk zs g4 g5 g6 off b cp ck).val (sm49_32c args T ss kk zs g4 g5 g6 off b cp ck).tab := by
  obtain ⟨hT, hv, h1, h2, h3, h4, h5, h6, _⟩ := h
  simp only [Con.h] at hT hv h1 h2 h3 h4 h5 h6
  injection hv with hv
  subst hT hv
  subst h1
  refine small_ofG (R := R49_32 ss kk zs g4 g5 g6 off cp ck) (keep := [0, 1, 2, 3, 4, 5, 6, 9]) eT32_ok hmS (f := 49) (fn := f49) (by kernel_rfl) (by kernel_rfl) orc49_32_ok rfl (R49_32_ok ?_) R49_32_val ?_
  · have hz' := zz32
    have hw : WdsLaw 32 (schLaw 32 4294967296 [7, 18, 3] [17, 19, 10] (wordsLaw 4 zs off 16) 48) := schLaw_wds (by decide) (words32_wds h3) _
    have e : List.take 8 ss = ss := List.take_of_length_le (by omega)
    simp only [allP, Con.h, e, List.nil_append, hz', hw, h2, h3, h4, h5, h6, eq_self, true_and, and_true, Nat.le_refl]
  · rw [R49_32_tab, List.take_of_length_le (by omega), List.nil_append, bks32_eq]
    rfl
noncomputable def sm49_32 : Summary := fun args T => sm49_32c args T (xsAt T 4) (xsAt T 5) (xsAt T 6) (gAt T 4) (gAt T 5) (gAt T 6) (offOf (vAt args 3)) (lenOf (vAt args 3)) (capOf (vAt args 1)) (capOf (vAt args 2))
theorem sm49_32_ok : SmOk prog glS 49 sm49_32 := fun args T h => sm49_32c_ok h
noncomputable def S49_32 : Summary := callR sm49_32 []
theorem S49_32_ok : SumOk prog glS 49 S49_32 := callR_ok sm49_32_ok []
noncomputable def A48_32 (off n m : Nat) (cp : Option Nat) (zs xs : List Int) (g4 g6 : Nat) (o4 : Bool) : Out := trim 7 7 [1,2,5] (run (eS0 []) 53 ⟨7, []⟩ 400 (roundOf 0 f48) [(1, .slice 1 4 g4 off n cp), (2, .var 5 0), (5, .slice 1 6 g6 0 m none)] [some ⟨.ints .i64 [7, 18, 3], 0, false, 3⟩, some ⟨.ints .i64 [17, 19, 10], 0, false, 3⟩, some ⟨.ints .i64 [2, 13, 22], 0, false, 3⟩, some ⟨.ints .i64 [6, 11, 25], 0, false, 3⟩, some ⟨.ints .u8 zs, g4, o4, 5⟩, some ⟨.agg [.int .i64 32, .int .i64 64, .int .i64 64, .slice 1 0 0 0 3 (some 3), .slice 1 1 0 0 3 (some 3), .slice 1 2 0 0 3 (some 3), .slice 1 3 0 0 3 (some 3)], 0, true, 54⟩, some ⟨.ints .u8 xs, g6, true, 5⟩] [some true])
theorem A48_32_ok {off n m : Nat} {cp : Option Nat} {zs xs : List Int} {g4 g6 : Nat} {o4 : Bool} (h : allP [.eqN g6 g6, .rng (-9223372036854775808) ((↑m : Int) + 8) 9223372036854775807, .p ((((↑m : Int) + 8).tmod 64 != 0) = true), .eqN g6 g6, .leN (0 + m) xs.length, .leN (addO m 1) 140737488355328]) : Ok (A48_32 off n m cp zs xs g4 g6 o4) := Ok.dem (fl := bitsF 21 1865662) (by kernel_rfl) (by
 kernel_rfl) (by kernel_rfl) h
theorem A48_32_ex {off n m : Nat} {cp : Option Nat} {zs xs : List Int} {g4 g6 : Nat} {o4 : Bool} : (A48_32 off n m cp zs xs g4 g6 o4).ex = .normal := by kernel_rfl
theorem A48_32_fm {off n m : Nat} {cp : Option Nat} {zs xs : List Int} {g4 g6 : Nat} {o4 : Bool} : (A48_32 off n m cp zs xs g4 g6 o4).fm = [(1, .slice 1 4 g4 off n cp), (2, .var 5 0), (5, .slice 1 6 (g6 + 1) 0 (addO m 1) none)] := by kernel_rfl
theorem A48_32_tab {off n m : Nat} {cp : Option Nat} {zs xs : List Int} {g4 g6 : Nat} {o4 : Bool} : (A48_32 off n m cp zs xs g4 g6 o4).tab = [some ⟨.ints .i64 [7, 18, 3], 0, false, 3⟩, some ⟨.ints .i64 [17, 19, 10], 0, false, 3⟩, some ⟨.ints .i64 [2, 13, 22], 0, false, 3⟩, some ⟨.ints .i64 [6, 11, 25], 0, false, 3⟩, some ⟨.ints .u8 zs, g4, o4, 5⟩, some ⟨.agg [.int .i64 32, .int .i64 64, .int .i64
 64, .slice 1 0 0 0 3 (some 3), .slice 1 1 0 0 3 (some 3), .slice 1 2 0 0 3 (some 3), .slice 1 3 0 0 3 (some 3)], 0, true, 54⟩, some ⟨.ints .u8 (List.take m xs ++ [0]), g6 + 1, true, 5⟩] := by kernel_rfl
noncomputable def B48_32 (off n m : Nat) (cp : Option Nat) (zs xs : List Int) (g4 g6 : Nat) (o4 : Bool) : Out := trim 7 7 [1,2,5] (run (eS0 []) 53 ⟨7, []⟩ 400 (roundOf 0 f48) [(1, .slice 1 4 g4 off n cp), (2, .var 5 0), (5, .slice 1 6 g6 0 m none)] [some ⟨.ints .i64 [7, 18, 3], 0, false, 3⟩, some ⟨.ints .i64 [17, 19, 10], 0, false, 3⟩, some ⟨.ints .i64 [2, 13, 22], 0, false, 3⟩, some ⟨.ints .i64 [6, 11, 25], 0, false, 3⟩, some ⟨.ints .u8 zs, g4, o4, 5⟩, some ⟨.agg [.int .i64 32, .int .i64 64, .int .i64 64, .slice 1 0 0 0 3 (some 3), .slice 1 1 0 0 3 (some 3), .slice 1 2 0 0 3 (some 3), .slice 1 3 0 0 3 (some 3)], 0, true, 54⟩, some ⟨.ints .u8 xs, g6, true, 5⟩] [some false])
theorem B48_32_ok {off n m : Nat} {cp : Option Nat} {zs xs : List Int} {g4 g6 : Nat} {o4 : Bool} (h : allP [.eqN g6 g6, .rng (-9223372036854775808) ((↑m : Int) + 8) 9223372036854775807, .p ((((↑m : Int) + 8).tmod 64 != 0) = false)]) : Ok (B48_32 off n m cp zs xs g4 g6 o4) := Ok.dem (fl := bitsF 12 1982) (by kernel_rfl) (by kernel_rfl) (by kernel_rfl) h
theorem B48_32_ex {off n m : Nat} {cp : Option Nat} {zs xs : List Int} {g4 g6 : Nat} {o4 : Bool} : (B48_32 off n m cp zs xs g4 g6 o4).ex = .exit 0 := by kernel_rfl
theorem B48_32_fm {off n m : Nat} {cp : Option Nat} {zs xs : List Int} {g4 g6 : Nat} {o4 : Bool} : (B48_32 off n m cp zs xs g4 g6 o4).fm = [(1, .slice 1 4 g4 off n cp), (2, .var 5 0), (5, .slice 1 6 g6 0 m none)] := by kernel_rfl
theorem B48_32_tab {off n m : Nat} {cp : Option Nat} {zs xs : List Int} {g4 g6 : Nat} {o4 : Bool} : (B48_32 off n m cp zs xs g4 g6 o4).tab = [some ⟨.ints .i64 [7, 18, 3], 0, false, 3⟩, some ⟨.ints .i64 [17, 19, 10], 0, false, 3⟩, some ⟨.ints .i64 [2, 13, 22], 0, false, 3⟩, some ⟨.ints .i64 [6, 11, 25], 0, false, 3⟩, some ⟨.ints .u8 zs, g4, o4, 5⟩, some ⟨.agg [.int .i64 32, .int .i64 64, .int .i64
 64, .slice 1 0 0 0 3 (some 3), .slice 1 1 0 0 3 (some 3), .slice 1 2 0 0 3 (some 3), .slice 1 3 0 0 3 (some 3)], 0, true, 54⟩, some ⟨.ints .u8 xs, g6, true, 5⟩] := by kernel_rfl
noncomputable def C48_32 (x : Int) (zs xs : List Int) (g4 g6 : Nat) (o4 : Bool) : Out := trim 7 7 [5] (run (eS0 []) 53 ⟨7, []⟩ 1000 (.block 2 (.loop (roundOf 2 f48))) [(5, .slice 1 6 g6 0 xs.length none), (6, .int .u64 x), (7, .int .i64 7)] [some ⟨.ints .i64 [7, 18, 3], 0, false, 3⟩, some ⟨.ints .i64 [17, 19, 10], 0, false, 3⟩, some ⟨.ints .i64 [2, 13, 22], 0, false, 3⟩, some ⟨.ints .i64 [6, 11, 25], 0, false, 3⟩, some ⟨.ints .u8 zs, g4, o4, 5⟩, some ⟨.agg [.int .i64 32, .int .i64 64, .int .i64 64, .slice 1 0 0 0 3 (some 3), .slice 1 1 0 0 3 (some 3), .slice 1 2 0 0 3 (some 3), .slice 1 3 0 0 3 (some 3)], 0, true, 54⟩, some ⟨.ints .u8 xs, g6, true, 5⟩] [])
theorem C48_32_ok {x : Int} {zs xs : List Int} {g4 g6 : Nat} {o4 : Bool} (h : allP [.eqN g6 g6, .leN (0 + xs.length) xs.length, .leN (addO xs.length 1) 140737488355328, .eqN (g6 + 1) (g6 + 1), .leN (0 + addO xs.length 1) (List.take xs.length xs ++ [x / 72057594037927936 % 256]).length, .leN (addO (addO xs.length 1) 1) 140737488355328, .eqN (g6 + 1 + 1) (g6 + 1 + 1), .leN (0 + addO (addO xs.length
 1) 1) (List.take (addO xs.length 1) (List.take xs.length xs ++ [x / 72057594037927936 % 256]) ++ [x / 281474976710656 % 256]).length, .leN (addO (addO (addO xs.length 1) 1) 1) 140737488355328, .eqN (g6 + 1 + 1 + 1) (g6 + 1 + 1 + 1), .leN (0 + addO (addO (addO xs.length 1) 1) 1) (List.take (addO (addO xs.length 1) 1) (List.take (addO xs.length 1) (List.take xs.length xs ++ [x / 72057594037927936 %
 256]) ++ [x / 281474976710656 % 256]) ++ [x / 1099511627776 % 256]).length, .leN (addO (addO (addO (addO xs.length 1) 1) 1) 1) 140737488355328, .eqN (g6 + 1 + 1 + 1 + 1) (g6 + 1 + 1 + 1 + 1), .leN (0 + addO (addO (addO (addO xs.length 1) 1) 1) 1) (List.take (addO (addO (addO xs.length 1) 1) 1) (List.take (addO (addO xs.length 1) 1) (List.take (addO xs.length 1) (List.take xs.length xs ++ [x /
 72057594037927936 % 256]) ++ [x / 281474976710656 % 256]) ++ [x / 1099511627776 % 256]) ++ [x / 4294967296 % 256]).length, .leN (addO (addO (addO (addO (addO xs.length 1) 1) 1) 1) 1) 140737488355328, .eqN (g6 + 1 + 1 + 1 + 1 + 1) (g6 + 1 + 1 + 1 + 1 + 1), .leN (0 + addO (addO (addO (addO (addO xs.length 1) 1) 1) 1) 1) (List.take (addO (addO (addO (addO xs.length 1) 1) 1) 1) (List.take (addO (addO
 (addO xs.length 1) 1) 1) (List.take (addO (addO xs.length 1) 1) (List.take (addO xs.length 1) (List.take xs.length xs ++ [x / 72057594037927936 % 256]) ++ [x / 281474976710656 % 256]) ++ [x / 1099511627776 % 256]) ++ [x / 4294967296 % 256]) ++ [x / 16777216 % 256]).length, .leN (addO (addO (addO (addO (addO (addO xs.length 1) 1) 1) 1) 1) 1) 140737488355328, .eqN (g6 + 1 + 1 + 1 + 1 + 1 + 1) (g6 + 1
 + 1 + 1 + 1 + 1 + 1), .leN (0 + addO (addO (addO (addO (addO (addO xs.length 1) 1) 1) 1) 1) 1) (List.take (addO (addO (addO (addO (addO xs.length 1) 1) 1) 1) 1) (List.take (addO (addO (addO (addO xs.length 1) 1) 1) 1) (List.take (addO (addO (addO xs.length 1) 1) 1) (List.take (addO (addO xs.length 1) 1) (List.take (addO xs.length 1) (List.take xs.length xs ++ [x / 72057594037927936 % 256]) ++ [x /
 281474976710656 % 256]) ++ [x / 1099511627776 % 256]) ++ [x / 4294967296 % 256]) ++ [x / 16777216 % 256]) ++ [x / 65536 % 256]).length, .leN (addO (addO (addO (addO (addO (addO (addO xs.length 1) 1) 1) 1) 1) 1) 1) 140737488355328, .eqN (g6 + 1 + 1 + 1 + 1 + 1 + 1 + 1) (g6 + 1 + 1 + 1 + 1 + 1 + 1 + 1), .leN (0 + addO (addO (addO (addO (addO (addO (addO xs.length 1) 1) 1) 1) 1) 1) 1) (List.take (addO
 (addO (addO (addO (addO (addO xs.length 1) 1) 1) 1) 1) 1) (List.take (addO (addO (addO (addO (addO xs.length 1) 1) 1) 1) 1) (List.take (addO (addO (addO (addO xs.length 1) 1) 1) 1) (List.take (addO (addO (addO xs.length 1) 1) 1) (List.take (addO (addO xs.length 1) 1) (List.take (addO xs.length 1) (List.take xs.length xs ++ [x / 72057594037927936 % 256]) ++ [x / 281474976710656 % 256]) ++ [x /
 1099511627776 % 256]) ++ [x / 4294967296 % 256]) ++ [x / 16777216 % 256]) ++ [x / 65536 % 256]) ++ [x / 256 % 256]).length, .leN (addO (addO (addO (addO (addO (addO (addO (addO xs.length 1) 1) 1) 1) 1) 1) 1) 1) 140737488355328]) : Ok (C48_32 x zs xs g4 g6 o4) := Ok.dem (fl := bitsF 104 19173079912229872310172575596095) (by kernel_rfl) (by kernel_rfl) (by kernel_rfl) h
theorem C48_32_ex {x : Int} {zs xs : List Int} {g4 g6 : Nat} {o4 : Bool} : (C48_32 x zs xs g4 g6 o4).ex = .normal := by kernel_rfl
theorem C48_32_fm {x : Int} {zs xs : List Int} {g4 g6 : Nat} {o4 : Bool} : (C48_32 x zs xs g4 g6 o4).fm = [(5, .slice 1 6 (g6 + 1 + 1 + 1 + 1 + 1 + 1 + 1 + 1) 0 (addO (addO (addO (addO (addO (addO (addO (addO xs.length 1) 1) 1) 1) 1) 1) 1) 1) none)] := by kernel_rfl
theorem C48_32_tab {x : Int} {zs xs : List Int} {g4 g6 : Nat} {o4 : Bool} : (C48_32 x zs xs g4 g6 o4).tab = [some ⟨.ints .i64 [7, 18, 3], 0, false, 3⟩, some ⟨.ints .i64 [17, 19, 10], 0, false, 3⟩, some ⟨.ints .i64 [2, 13, 22], 0, false, 3⟩, some ⟨.ints .i64 [6, 11, 25], 0, false, 3⟩, some ⟨.ints .u8 zs, g4, o4, 5⟩, some ⟨.agg [.int .i64 32, .int .i64 64, .int .i64 64, .slice 1 0 0 0 3 (some 3),
 .slice 1 1 0 0 3 (some 3), .slice 1 2 0 0 3 (some 3), .slice 1 3 0 0 3 (some 3)], 0, true, 54⟩, some ⟨.ints .u8 (List.take (addO (addO (addO (addO (addO (addO (addO xs.length 1) 1) 1) 1) 1) 1) 1) (List.take (addO (addO (addO (addO (addO (addO xs.length 1) 1) 1) 1) 1) 1) (List.take (addO (addO (addO (addO (addO xs.length 1) 1) 1) 1) 1) (List.take (addO (addO (addO (addO xs.length 1) 1) 1) 1)
 (List.take (addO (addO (addO xs.length 1) 1) 1) (List.take (addO (addO xs.length 1) 1) (List.take (addO xs.length 1) (List.take xs.length xs ++ [x / 72057594037927936 % 256]) ++ [x / 281474976710656 % 256]) ++ [x / 1099511627776 % 256]) ++ [x / 4294967296 % 256]) ++ [x / 16777216 % 256]) ++ [x / 65536 % 256]) ++ [x / 256 % 256]) ++ [x / 1 % 256]), g6 + 1 + 1 + 1 + 1 + 1 + 1 + 1 + 1, true, 5⟩] := by
 kernel_rfl
/-! width 64 -/
def bks64Law (zs : List Int) (off : Nat) (xs : List Int) : List Int := [bkLaw64 zs off xs 0, bkLaw64 zs off xs 1, bkLaw64 zs off xs 2, bkLaw64 zs off xs 3, bkLaw64 zs off xs 4, bkLaw64 zs off xs 5, bkLaw64 zs off xs 6, bkLaw64 zs off xs 7]
theorem bks64_eq (zs : List Int) (off : Nat) (xs : List Int) : addx64Law xs (rndx64Law (schLaw 64 18446744073709551616 [1, 8, 7] [19, 61, 6] (wordsLaw 8 zs off 16) 64) xs) = bks64Law zs off xs := by
  have h1 : wsLaw 64 18446744073709551616 [1, 8, 7] [19, 61, 6] 80 (arrLaw 8 zs off 15 8) = schLaw 64 18446744073709551616 [1, 8, 7] [19, 61, 6] (wordsLaw 8 zs off 16) 64 ++ List.replicate 0 0 := by
    unfold wsLaw
    rw [arrLaw_end, List.take_append_of_le_length (by rw [wordsLaw_len]; exact Nat.le_refl _), List.take_of_length_le (by rw [wordsLaw_len]; exact Nat.le_refl _)]
  have h2 : rndsLaw 64 18446744073709551616 [28, 34, 39] [14, 18, 41] (wsLaw 64 18446744073709551616 [1, 8, 7] [19, 61, 6] 80 (arrLaw 8 zs off 15 8)) xs 80 = rndx64Law (schLaw 64 18446744073709551616 [1, 8, 7] [19, 61, 6] (wordsLaw 8 zs off 16) 64) xs := by
    rw [h1]
    exact rnds_app 80 (by rw [schLaw_len (wordsLaw_len _ _ _ _)]; exact Nat.le_refl _)
  unfold bks64Law bkLaw64 blkAtLaw rndAtLaw
  rw [h2]
  rfl
noncomputable def sm49_64c (args : List AVal) (T : Tab) (ss : List Int) (kk : List Int) (zs : List Int) (g4 : Nat) (g5 : Nat) (g6 : Nat) (off : Nat) (b : Nat) (cp : Option Nat) (ck : Option Nat) : Res := ⟨[.tab T [some ⟨.ints .i64 [1, 8, 7], 0, false, 3⟩, some ⟨.ints .i64 [19, 61, 6], 0, false, 3⟩, some ⟨.ints .i64 [28, 34, 39], 0, false, 3⟩, some ⟨.ints .i64 [14, 18, 41], 0, false, 3⟩, some ⟨.ints .u64 ss, g4, false, 56⟩, some ⟨.ints .u64 kk, g5, false, 56⟩, some ⟨.ints .u8 zs, g6, false, 5⟩], .val (.tuple args) (.tuple [.agg [.int .i64 64, .int .i64 128, .int .i64 80, .slice 1 0 0 0 3 (some 3), .slice 1 1 0 0 3 (some 3), .slice 1 2 0 0 3 (some 3), .slice 1 3 0 0 3 (some 3)], .slice 1 4 g4 0 8 cp, .slice 1 5 g5 0 80 ck, .slice 1 6 g6 off b none]), .eqN b 128, .leN (off + 128) zs.length, .p (BsLaw zs), .p (isCubesLaw kk), .eqN ss.length 8, .p (WdsLaw 64 ss)], .slice 1 7 0 0 8 (some 8), [some ⟨.ints .i64 [1, 8, 7], 0, false, 3⟩, some ⟨.ints .i64 [19, 61, 6], 0, false, 3⟩, some ⟨.ints .i64 [28, 34, 39], 0, false, 3⟩, some ⟨.ints .i64 [14, 18, 41], 0, false, 3⟩, some ⟨.ints .u64 ss, g4, false, 56⟩, some ⟨.ints .u64 kk, g5, false, 56⟩, some ⟨.ints .u8 zs, g6, false, 5⟩, some ⟨.ints .u64 (bks64Law zs off ss), 0, true, 56⟩]⟩
theorem sm49_64c_ok {args : List AVal} {T : Tab} {ss : List Int} {kk : List Int} {zs : List Int} {g4 : Nat} {g5 : Nat} {g6 : Nat} {off : Nat} {b : Nat} {cp : Option Nat} {ck : Option Nat} (h : allP (sm49_64c args T ss kk zs g4 g5 g6 off b cp ck).cs) : Small prog glS 49 args T (sm49_64c args T ss kk zs g4 g5 g6 off b cp ck).val (sm49_64c args T ss kk zs g4 g5 g6 off b cp ck).tab := by
  obtain ⟨hT, hv, h1, h2, h3, h4, h5, h6, _⟩ := h
  simp only [Con.h] at hT hv h1 h2 h3 h4 h5 h6
  injection hv with hv
  subst hT hv
  subst h1
  refine small_ofG (R := R49_64 ss kk zs g4 g5 g6 off cp ck) (keep := [0, 1, 2, 3, 4, 5, 6, 9]) eT64_ok hmS (f := 49) (fn := f49) (by kernel_rfl) (by kernel_rfl) orc49_64_ok rfl (R49_64_ok ?_) R49_64_val ?_
  · have hz' := zz64
    have hw : WdsLaw 64 (schLaw 64 18446744073709551616 [1, 8, 7] [19, 61, 6] (wordsLaw 8 zs off 16) 64) := schLaw_wds (by decide) (words64_wds h3) _
    have e : List.take 8 ss = ss := List.take_of_length_le (by omega)
    simp only [allP, Con.h, e, List.nil_append, hz', hw, h2, h3, h4, h5, h6, eq_self, true_and, and_true, Nat.le_refl]
  · rw [R49_64_tab, List.take_of_length_le (by omega), List.nil_append, bks64_eq]
    rfl
noncomputable def sm49_64 : Summary := fun args T => sm49_64c args T (xsAt T 4) (xsAt T 5) (xsAt T 6) (gAt T 4) (gAt T 5) (gAt T 6) (offOf (vAt args 3)) (lenOf (vAt args 3)) (capOf (vAt args 1)) (capOf (vAt args 2))
theorem sm49_64_ok : SmOk prog glS 49 sm49_64 := fun args T h => sm49_64c_ok h
noncomputable def S49_64 : Summary := callR sm49_64 []
theorem S49_64_ok : SumOk prog glS 49 S49_64 := callR_ok sm49_64_ok []
noncomputable def A48_64 (off n m : Nat) (cp : Option Nat) (zs xs : List Int) (g4 g6 : Nat) (o4 : Bool) : Out := trim 7 7 [1,2,5] (run (eS0 []) 53 ⟨7, []⟩ 400 (roundOf 0 f48) [(1, .slice 1 4 g4 off n cp), (2, .var 5 0), (5, .slice 1 6 g6 0 m none)] [some ⟨.ints .i64 [1, 8, 7], 0, false, 3⟩, some ⟨.ints .i64 [19, 61, 6], 0, false, 3⟩, some ⟨.ints .i64 [28, 34, 39], 0, false, 3⟩, some ⟨.ints .i64 [14, 18, 41], 0, false, 3⟩, some ⟨.ints .u8 zs, g4, o4, 5⟩, some ⟨.agg [.int .i64 64, .int .i64 128, .int .i64 80, .slice 1 0 0 0 3 (some 3), .slice 1 1 0 0 3 (some 3), .slice 1 2 0 0 3 (some 3), .slice 1 3 0 0 3 (some 3)], 0, true, 54⟩, some ⟨.ints .u8 xs, g6, true, 5⟩] [some true])
theorem A48_64_ok {off n m : Nat} {cp : Option Nat} {zs xs : List Int} {g4 g6 : Nat} {o4 : Bool} (h : allP [.eqN g6 g6, .rng (-9223372036854775808) ((↑m : Int) + 16) 9223372036854775807, .p ((((↑m : Int) + 16).tmod 128 != 0) = true), .eqN g6 g6, .leN (0 + m) xs.length, .leN (addO m 1) 140737488355328]) : Ok (A48_64 off n m cp zs xs g4 g6 o4) := Ok.dem (fl := bitsF 21 1865662) (by kernel_rfl) (by
 kernel_rfl) (by kernel_rfl) h
theorem A48_64_ex {off n m : Nat} {cp : Option Nat} {zs xs : List Int} {g4 g6 : Nat} {o4 : Bool} : (A48_64 off n m cp zs xs g4 g6 o4).ex = .normal := by kernel_rfl
theorem A48_64_fm {off n m : Nat} {cp : Option Nat} {zs xs : List Int} {g4 g6 : Nat} {o4 : Bool} : (A48_64 off n m cp zs xs g4 g6 o4).fm = [(1, .slice 1 4 g4 off n cp), (2, .var 5 0), (5, .slice 1 6 (g6 + 1) 0 (addO m 1) none)] := by kernel_rfl
theorem A48_64_tab {off n m : Nat} {cp : Option Nat} {zs xs : List Int} {g4 g6 : Nat} {o4 : Bool} : (A48_64 off n m cp zs xs g4 g6 o4).tab = [some ⟨.ints .i64 [1, 8, 7], 0, false, 3⟩, some ⟨.ints .i64 [19, 61, 6], 0, false, 3⟩, some ⟨.ints .i64 [28, 34, 39], 0, false, 3⟩, some ⟨.ints .i64 [14, 18, 41], 0, false, 3⟩, some ⟨.ints .u8 zs, g4, o4, 5⟩, some ⟨.agg [.int .i64 64, .int .i64 128, .int .i64
 80, .slice 1 0 0 0 3 (some 3), .slice 1 1 0 0 3 (some 3), .slice 1 2 0 0 3 (some 3), .slice 1 3 0 0 3 (some 3)], 0, true, 54⟩, some ⟨.ints .u8 (List.take m xs ++ [0]), g6 + 1, true, 5⟩] := by kernel_rfl
noncomputable def B48_64 (off n m : Nat) (cp : Option Nat) (zs xs : List Int) (g4 g6 : Nat) (o4 : Bool) : Out := trim 7 7 [1,2,5] (run (eS0 []) 53 ⟨7, []⟩ 400 (roundOf 0 f48) [(1, .slice 1 4 g4 off n cp), (2, .var 5 0), (5, .slice 1 6 g6 0 m none)] [some ⟨.ints .i64 [1, 8, 7], 0, false, 3⟩, some ⟨.ints .i64 [19, 61, 6], 0, false, 3⟩, some ⟨.ints .i64 [28, 34, 39], 0, false, 3⟩, some ⟨.ints .i64 [14, 18, 41], 0, false, 3⟩, some ⟨.ints .u8 zs, g4, o4, 5⟩, some ⟨.agg [.int .i64 64, .int .i64 128, .int .i64 80, .slice 1 0 0 0 3 (some 3), .slice 1 1 0 0 3 (some 3), .slice 1 2 0 0 3 (some 3), .slice 1 3 0 0 3 (some 3)], 0, true, 54⟩, some ⟨.ints .u8 xs, g6, true, 5⟩] [some false])
theorem B48_64_ok {off n m : Nat} {cp : Option Nat} {zs xs : List Int} {g4 g6 : Nat} {o4 : Bool} (h : allP [.eqN g6 g6, .rng (-9223372036854775808) ((↑m : Int) + 16) 9223372036854775807, .p ((((↑m : Int) + 16).tmod 128 != 0) = false)]) : Ok (B48_64 off n m cp zs xs g4 g6 o4) := Ok.dem (fl := bitsF 12 1982) (by kernel_rfl) (by kernel_rfl) (by kernel_rfl) h
theorem B48_64_ex {off n m : Nat} {cp : Option Nat} {zs xs : List Int} {g4 g6 : Nat} {o4 : Bool} : (B48_64 off n m cp zs xs g4 g6 o4).ex = .exit 0 := by kernel_rfl
theorem B48_64_fm {off n m : Nat} {cp : Option Nat} {zs xs : List Int} {g4 g6 : Nat} {o4 : Bool} : (B48_64 off n m cp zs xs g4 g6 o4).fm = [(1, .slice 1 4 g4 off n cp), (2, .var 5 0), (5, .slice 1 6 g6 0 m none)] := by kernel_rfl
theorem B48_64_tab {off n m : Nat} {cp : Option Nat} {zs xs : List Int} {g4 g6 : Nat} {o4 : Bool} : (B48_64 off n m cp zs xs g4 g6 o4).tab = [some ⟨.ints .i64 [1, 8, 7], 0, false, 3⟩, some ⟨.ints .i64 [19, 61, 6], 0, false, 3⟩, some ⟨.ints .i64 [28, 34, 39], 0, false, 3⟩, some ⟨.ints .i64 [14, 18, 41], 0, false, 3⟩, some ⟨.ints .u8 zs, g4, o4, 5⟩, some ⟨.agg [.int .i64 64, .int .i64 128, .int .i64
 80, .slice 1 0 0 0 3 (some 3), .slice 1 1 0 0 3 (some 3), .slice 1 2 0 0 3 (some 3), .slice 1 3 0 0 3 (some 3)], 0, true, 54⟩, some ⟨.ints .u8 xs, g6, true, 5⟩] := by kernel_rfl
noncomputable def C48_64 (x : Int) (zs xs : List Int) (g4 g6 : Nat) (o4 : Bool) : Out := trim 7 7 [5] (run (eS0 []) 53 ⟨7, []⟩ 1000 (.block 2 (.loop (roundOf 2 f48))) [(5, .slice 1 6 g6 0 xs.length none), (6, .int .u64 x), (7, .int .i64 15)] [some ⟨.ints .i64 [1, 8, 7], 0, false, 3⟩, some ⟨.ints .i64 [19, 61, 6], 0, false, 3⟩, some ⟨.ints .i64 [28, 34, 39], 0, false, 3⟩, some ⟨.ints .i64 [14, 18, 41], 0, false, 3⟩, some ⟨.ints .u8 zs, g4, o4, 5⟩, some ⟨.agg [.int .i64 64, .int .i64 128, .int .i64 80, .slice 1 0 0 0 3 (some 3), .slice 1 1 0 0 3 (some 3), .slice 1 2 0 0 3 (some 3), .slice 1 3 0 0 3 (some 3)], 0, true, 54⟩, some ⟨.ints .u8 xs, g6, true, 5⟩] [])
theorem C48_64_ok {x : Int} {zs xs : List Int} {g4 g6 : Nat} {o4 : Bool} (h : allP [.eqN g6 g6, .leN (0 + xs.length) xs.length, .leN (addO xs.length 1) 140737488355328, .eqN (g6 + 1) (g6 + 1), .leN (0 + addO xs.length 1) (List.take xs.length xs ++ [0]).length, .leN (addO (addO xs.length 1) 1) 140737488355328, .eqN (g6 + 1 + 1) (g6 + 1 + 1), .leN (0 + addO (addO xs.length 1) 1) (List.take (addO
 xs.length 1) (List.take xs.length xs ++ [0]) ++ [0]).length, .leN (addO (addO (addO xs.length 1) 1) 1) 140737488355328, .eqN (g6 + 1 + 1 + 1) (g6 + 1 + 1 + 1), .leN (0 + addO (addO (addO xs.length 1) 1) 1) (List.take (addO (addO xs.length 1) 1) (List.take (addO xs.length 1) (List.take xs.length xs ++ [0]) ++ [0]) ++ [0]).length, .leN (addO (addO (addO (addO xs.length 1) 1) 1) 1) 140737488355328,
 .eqN (g6 + 1 + 1 + 1 + 1) (g6 + 1 + 1 + 1 + 1), .leN (0 + addO (addO (addO (addO xs.length 1) 1) 1) 1) (List.take (addO (addO (addO xs.length 1) 1) 1) (List.take (addO (addO xs.length 1) 1) (List.take (addO xs.length 1) (List.take xs.length xs ++ [0]) ++ [0]) ++ [0]) ++ [0]).length, .leN (addO (addO (addO (addO (addO xs.length 1) 1) 1) 1) 1) 140737488355328, .eqN (g6 + 1 + 1 + 1 + 1 + 1) (g6 + 1 +
 1 + 1 + 1 + 1), .leN (0 + addO (addO (addO (addO (addO xs.length 1) 1) 1) 1) 1) (List.take (addO (addO (addO (addO xs.length 1) 1) 1) 1) (List.take (addO (addO (addO xs.length 1) 1) 1) (List.take (addO (addO xs.length 1) 1) (List.take (addO xs.length 1) (List.take xs.length xs ++ [0]) ++ [0]) ++ [0]) ++ [0]) ++ [0]).length, .leN (addO (addO (addO (addO (addO (addO xs.length 1) 1) 1) 1) 1) 1)
 140737488355328, .eqN (g6 + 1 + 1 + 1 + 1 + 1 + 1) (g6 + 1 + 1 + 1 + 1 + 1 + 1), .leN (0 + addO (addO (addO (addO (addO (addO xs.length 1) 1) 1) 1) 1) 1) (List.take (addO (addO (addO (addO (addO xs.length 1) 1) 1) 1) 1) (List.take (addO (addO (addO (addO xs.length 1) 1) 1) 1) (List.take (addO (addO (addO xs.length 1) 1) 1) (List.take (addO (addO xs.length 1) 1) (List.take (addO xs.length 1)
 (List.take xs.length xs ++ [0]) ++ [0]) ++ [0]) ++ [0]) ++ [0]) ++ [0]).length, .leN (addO (addO (addO (addO (addO (addO (addO xs.length 1) 1) 1) 1) 1) 1) 1) 140737488355328, .eqN (g6 + 1 + 1 + 1 + 1 + 1 + 1 + 1) (g6 + 1 + 1 + 1 + 1 + 1 + 1 + 1), .leN (0 + addO (addO (addO (addO (addO (addO (addO xs.length 1) 1) 1) 1) 1) 1) 1) (List.take (addO (addO (addO (addO (addO (addO xs.length 1) 1) 1) 1) 1)
 1) (List.take (addO (addO (addO (addO (addO xs.length 1) 1) 1) 1) 1) (List.take (addO (addO (addO (addO xs.length 1) 1) 1) 1) (List.take (addO (addO (addO xs.length 1) 1) 1) (List.take (addO (addO xs.length 1) 1) (List.take (addO xs.length 1) (List.take xs.length xs ++ [0]) ++ [0]) ++ [0]) ++ [0]) ++ [0]) ++ [0]) ++ [0]).length, .leN (addO (addO (addO (addO (addO (addO (addO (addO xs.length 1) 1)
 1) 1) 1) 1) 1) 1) 140737488355328, .eqN (g6 + 1 + 1 + 1 + 1 + 1 + 1 + 1 + 1) (g6 + 1 + 1 + 1 + 1 + 1 + 1 + 1 + 1), .leN (0 + addO (addO (addO (addO (addO (addO (addO (addO xs.length 1) 1) 1) 1) 1) 1) 1) 1) (List.take (addO (addO (addO (addO (addO (addO (addO xs.length 1) 1) 1) 1) 1) 1) 1) (List.take (addO (addO (addO (addO (addO (addO xs.length 1) 1) 1) 1) 1) 1) (List.take (addO (addO (addO (addO
 (addO xs.length 1) 1) 1) 1) 1) (List.take (addO (addO (addO (addO xs.length 1) 1) 1) 1) (List.take (addO (addO (addO xs.length 1) 1) 1) (List.take (addO (addO xs.length 1) 1) (List.take (addO xs.length 1) (List.take xs.length xs ++ [0]) ++ [0]) ++ [0]) ++ [0]) ++ [0]) ++ [0]) ++ [0]) ++ [0]).length, .leN (addO (addO (addO (addO (addO (addO (addO (addO (addO xs.length 1) 1) 1) 1) 1) 1) 1) 1) 1)
 140737488355328, .eqN (g6 + 1 + 1 + 1 + 1 + 1 + 1 + 1 + 1 + 1) (g6 + 1 + 1 + 1 + 1 + 1 + 1 + 1 + 1 + 1), .leN (0 + addO (addO (addO (addO (addO (addO (addO (addO (addO xs.length 1) 1) 1) 1) 1) 1) 1) 1) 1) (List.take (addO (addO (addO (addO (addO (addO (addO (addO xs.length 1) 1) 1) 1) 1) 1) 1) 1) (List.take (addO (addO (addO (addO (addO (addO (addO xs.length 1) 1) 1) 1) 1) 1) 1) (List.take (addO
 (addO (addO (addO (addO (addO xs.length 1) 1) 1) 1) 1) 1) (List.take (addO (addO (addO (addO (addO xs.length 1) 1) 1) 1) 1) (List.take (addO (addO (addO (addO xs.length 1) 1) 1) 1) (List.take (addO (addO (addO xs.length 1) 1) 1) (List.take (addO (addO xs.length 1) 1) (List.take (addO xs.length 1) (List.take xs.length xs ++ [0]) ++ [0]) ++ [0]) ++ [0]) ++ [0]) ++ [0]) ++ [0]) ++ [0]) ++ [x /
 72057594037927936 % 256]).length, .leN (addO (addO (addO (addO (addO (addO (addO (addO (addO (addO xs.length 1) 1) 1) 1) 1) 1) 1) 1) 1) 1) 140737488355328, .eqN (g6 + 1 + 1 + 1 + 1 + 1 + 1 + 1 + 1 + 1 + 1) (g6 + 1 + 1 + 1 + 1 + 1 + 1 + 1 + 1 + 1 + 1), .leN (0 + addO (addO (addO (addO (addO (addO (addO (addO (addO (addO xs.length 1) 1) 1) 1) 1) 1) 1) 1) 1) 1) (List.take (addO (addO (addO (addO (addO
 (addO (addO (addO (addO xs.length 1) 1) 1) 1) 1) 1) 1) 1) 1) (List.take (addO (addO (addO (addO (addO (addO (addO (addO xs.length 1) 1) 1) 1) 1) 1) 1) 1) (List.take (addO (addO (addO (addO (addO (addO (addO xs.length 1) 1) 1) 1) 1) 1) 1) (List.take (addO (addO (addO (addO (addO (addO xs.length 1) 1) 1) 1) 1) 1) (List.take (addO (addO (addO (addO (addO xs.length 1) 1) 1) 1) 1) (List.take (addO (addO
 (addO (addO xs.length 1) 1) 1) 1) (List.take (addO (addO (addO xs.length 1) 1) 1) (List.take (addO (addO xs.length 1) 1) (List.take (addO xs.length 1) (List.take xs.length xs ++ [0]) ++ [0]) ++ [0]) ++ [0]) ++ [0]) ++ [0]) ++ [0]) ++ [0]) ++ [x / 72057594037927936 % 256]) ++ [x / 281474976710656 % 256]).length, .leN (addO (addO (addO (addO (addO (addO (addO (addO (addO (addO (addO xs.length 1) 1)
 1) 1) 1) 1) 1) 1) 1) 1) 1) 140737488355328, .eqN (g6 + 1 + 1 + 1 + 1 + 1 + 1 + 1 + 1 + 1 + 1 + 1) (g6 + 1 + 1 + 1 + 1 + 1 + 1 + 1 + 1 + 1 + 1 + 1), .leN (0 + addO (addO (addO (addO (addO (addO (addO (addO (addO (addO (addO xs.length 1) 1) 1) 1) 1) 1) 1) 1) 1) 1) 1) (List.take (addO (addO (addO (addO (addO (addO (addO (addO (addO (addO xs.length 1) 1) 1) 1) 1) 1) 1) 1) 1) 1) (List.take (addO (addO
 (addO (addO (addO (addO (addO (addO (addO xs.length 1) 1) 1) 1) 1) 1) 1) 1) 1) (List.take (addO (addO (addO (addO (addO (addO (addO (addO xs.length 1) 1) 1) 1) 1) 1) 1) 1) (List.take (addO (addO (addO (addO (addO (addO (addO xs.length 1) 1) 1) 1) 1) 1) 1) (List.take (addO (addO (addO (addO (addO (addO xs.length 1) 1) 1) 1) 1) 1) (List.take (addO (addO (addO (addO (addO xs.length 1) 1) 1) 1) 1)
 (List.take (addO (addO (addO (addO xs.length 1) 1) 1) 1) (List.take (addO (addO (addO xs.length 1) 1) 1) (List.take (addO (addO xs.length 1) 1) (List.take (addO xs.length 1) (List.take xs.length xs ++ [0]) ++ [0]) ++ [0]) ++ [0]) ++ [0]) ++ [0]) ++ [0]) ++ [0]) ++ [x / 72057594037927936 % 256]) ++ [x / 281474976710656 % 256]) ++ [x / 1099511627776 % 256]).length, .leN (addO (addO (addO (addO (addO
 (addO (addO (addO (addO (addO (addO (addO xs.length 1) 1) 1) 1) 1) 1) 1) 1) 1) 1) 1) 1) 140737488355328, .eqN (g6 + 1 + 1 + 1 + 1 + 1 + 1 + 1 + 1 + 1 + 1 + 1 + 1) (g6 + 1 + 1 + 1 + 1 + 1 + 1 + 1 + 1 + 1 + 1 + 1 + 1), .leN (0 + addO (addO (addO (addO (addO (addO (addO (addO (addO (addO (addO (addO xs.length 1) 1) 1) 1) 1) 1) 1) 1) 1) 1) 1) 1) (List.take (addO (addO (addO (addO (addO (addO (addO
 (addO (addO (addO (addO xs.length 1) 1) 1) 1) 1) 1) 1) 1) 1) 1) 1) (List.take (addO (addO (addO (addO (addO (addO (addO (addO (addO (addO xs.length 1) 1) 1) 1) 1) 1) 1) 1) 1) 1) (List.take (addO (addO (addO (addO (addO (addO (addO (addO (addO xs.length 1) 1) 1) 1) 1) 1) 1) 1) 1) (List.take (addO (addO (addO (addO (addO (addO (addO (addO xs.length 1) 1) 1) 1) 1) 1) 1) 1) (List.take (addO (addO (addO
 (addO (addO (addO (addO xs.length 1) 1) 1) 1) 1) 1) 1) (List.take (addO (addO (addO (addO (addO (addO xs.length 1) 1) 1) 1) 1) 1) (List.take (addO (addO (addO (addO (addO xs.length 1) 1) 1) 1) 1) (List.take (addO (addO (addO (addO xs.length 1) 1) 1) 1) (List.take (addO (addO (addO xs.length 1) 1) 1) (List.take (addO (addO xs.length 1) 1) (List.take (addO xs.length 1) (List.take xs.length xs ++ [0])
 ++ [0]) ++ [0]) ++ [0]) ++ [0]) ++ [0]) ++ [0]) ++ [0]) ++ [x / 72057594037927936 % 256]) ++ [x / 281474976710656 % 256]) ++ [x / 1099511627776 % 256]) ++ [x / 4294967296 % 256]).length, .leN (addO (addO (addO (addO (addO (addO (addO (addO (addO (addO (addO (addO (addO xs.length 1) 1) 1) 1) 1) 1) 1) 1) 1) 1) 1) 1) 1) 140737488355328, .eqN (g6 + 1 + 1 + 1 + 1 + 1 + 1 + 1 + 1 + 1 + 1 + 1 + 1 + 1) (g6
 + 1 + 1 + 1 + 1 + 1 + 1 + 1 + 1 + 1 + 1 + 1 + 1 + 1), .leN (0 + addO (addO (addO (addO (addO (addO (addO (addO (addO (addO (addO (addO (addO xs.length 1) 1) 1) 1) 1) 1) 1) 1) 1) 1) 1) 1) 1) (List.take (addO (addO (addO (addO (addO (addO (addO (addO (addO (addO (addO (addO xs.length 1) 1) 1) 1) 1) 1) 1) 1) 1) 1) 1) 1) (List.take (addO (addO (addO (addO (addO (addO (addO (addO (addO (addO (addO
 xs.length 1) 1) 1) 1) 1) 1) 1) 1) 1) 1) 1) (List.take (addO (addO (addO (addO (addO (addO (addO (addO (addO (addO xs.length 1) 1) 1) 1) 1) 1) 1) 1) 1) 1) (List.take (addO (addO (addO (addO (addO (addO (addO (addO (addO xs.length 1) 1) 1) 1) 1) 1) 1) 1) 1) (List.take (addO (addO (addO (addO (addO (addO (addO (addO xs.length 1) 1) 1) 1) 1) 1) 1) 1) (List.take (addO (addO (addO (addO (addO (addO (addO
 xs.length 1) 1) 1) 1) 1) 1) 1) (List.take (addO (addO (addO (addO (addO (addO xs.length 1) 1) 1) 1) 1) 1) (List.take (addO (addO (addO (addO (addO xs.length 1) 1) 1) 1) 1) (List.take (addO (addO (addO (addO xs.length 1) 1) 1) 1) (List.take (addO (addO (addO xs.length 1) 1) 1) (List.take (addO (addO xs.length 1) 1) (List.take (addO xs.length 1) (List.take xs.length xs ++ [0]) ++ [0]) ++ [0]) ++ [0])
 ++ [0]) ++ [0]) ++ [0]) ++ [0]) ++ [x / 72057594037927936 % 256]) ++ [x / 281474976710656 % 256]) ++ [x / 1099511627776 % 256]) ++ [x / 4294967296 % 256]) ++ [x / 16777216 % 256]).length, .leN (addO (addO (addO (addO (addO (addO (addO (addO (addO (addO (addO (addO (addO (addO xs.length 1) 1) 1) 1) 1) 1) 1) 1) 1) 1) 1) 1) 1) 1) 140737488355328, .eqN (g6 + 1 + 1 + 1 + 1 + 1 + 1 + 1 + 1 + 1 + 1 + 1 +
 1 + 1 + 1) (g6 + 1 + 1 + 1 + 1 + 1 + 1 + 1 + 1 + 1 + 1 + 1 + 1 + 1 + 1), .leN (0 + addO (addO (addO (addO (addO (addO (addO (addO (addO (addO (addO (addO (addO (addO xs.length 1) 1) 1) 1) 1) 1) 1) 1) 1) 1) 1) 1) 1) 1) (List.take (addO (addO (addO (addO (addO (addO (addO (addO (addO (addO (addO (addO (addO xs.length 1) 1) 1) 1) 1) 1) 1) 1) 1) 1) 1) 1) 1) (List.take (addO (addO (addO (addO (addO
 (addO (addO (addO (addO (addO (addO (addO xs.length 1) 1) 1) 1) 1) 1) 1) 1) 1) 1) 1) 1) (List.take (addO (addO (addO (addO (addO (addO (addO (addO (addO (addO (addO xs.length 1) 1) 1) 1) 1) 1) 1) 1) 1) 1) 1) (List.take (addO (addO (addO (addO (addO (addO (addO (addO (addO (addO xs.length 1) 1) 1) 1) 1) 1) 1) 1) 1) 1) (List.take (addO (addO (addO (addO (addO (addO (addO (addO (addO xs.length 1) 1)
 1) 1) 1) 1) 1) 1) 1) (List.take (addO (addO (addO (addO (addO (addO (addO (addO xs.length 1) 1) 1) 1) 1) 1) 1) 1) (List.take (addO (addO (addO (addO (addO (addO (addO xs.length 1) 1) 1) 1) 1) 1) 1) (List.take (addO (addO (addO (addO (addO (addO xs.length 1) 1) 1) 1) 1) 1) (List.take (addO (addO (addO (addO (addO xs.length 1) 1) 1) 1) 1) (List.take (addO (addO (addO (addO xs.length 1) 1) 1) 1)
 (List.take (addO (addO (addO xs.length 1) 1) 1) (List.take (addO (addO xs.length 1) 1) (List.take (addO xs.length 1) (List.take xs.length xs ++ [0]) ++ [0]) ++ [0]) ++ [0]) ++ [0]) ++ [0]) ++ [0]) ++ [0]) ++ [x / 72057594037927936 % 256]) ++ [x / 281474976710656 % 256]) ++ [x / 1099511627776 % 256]) ++ [x / 4294967296 % 256]) ++ [x / 16777216 % 256]) ++ [x / 65536 % 256]).length, .leN (addO (addO
 (addO (addO (addO (addO (addO (addO (addO (addO (addO (addO (addO (addO (addO xs.length 1) 1) 1) 1) 1) 1) 1) 1) 1) 1) 1) 1) 1) 1) 1) 140737488355328, .eqN (g6 + 1 + 1 + 1 + 1 + 1 + 1 + 1 + 1 + 1 + 1 + 1 + 1 + 1 + 1 + 1) (g6 + 1 + 1 + 1 + 1 + 1 + 1 + 1 + 1 + 1 + 1 + 1 + 1 + 1 + 1 + 1), .leN (0 + addO (addO (addO (addO (addO (addO (addO (addO (addO (addO (addO (addO (addO (addO (addO xs.length 1) 1)
 1) 1) 1) 1) 1) 1) 1) 1) 1) 1) 1) 1) 1) (List.take (addO (addO (addO (addO (addO (addO (addO (addO (addO (addO (addO (addO (addO (addO xs.length 1) 1) 1) 1) 1) 1) 1) 1) 1) 1) 1) 1) 1) 1) (List.take (addO (addO (addO (addO (addO (addO (addO (addO (addO (addO (addO (addO (addO xs.length 1) 1) 1) 1) 1) 1) 1) 1) 1) 1) 1) 1) 1) (List.take (addO (addO (addO (addO (addO (addO (addO (addO (addO (addO (addO
 (addO xs.length 1) 1) 1) 1) 1) 1) 1) 1) 1) 1) 1) 1) (List.take (addO (addO (addO (addO (addO (addO (addO (addO (addO (addO (addO xs.length 1) 1) 1) 1) 1) 1) 1) 1) 1) 1) 1) (List.take (addO (addO (addO (addO (addO (addO (addO (addO (addO (addO xs.length 1) 1) 1) 1) 1) 1) 1) 1) 1) 1) (List.take (addO (addO (addO (addO (addO (addO (addO (addO (addO xs.length 1) 1) 1) 1) 1) 1) 1) 1) 1) (List.take (addO
 (addO (addO (addO (addO (addO (addO (addO xs.length 1) 1) 1) 1) 1) 1) 1) 1) (List.take (addO (addO (addO (addO (addO (addO (addO xs.length 1) 1) 1) 1) 1) 1) 1) (List.take (addO (addO (addO (addO (addO (addO xs.length 1) 1) 1) 1) 1) 1) (List.take (addO (addO (addO (addO (addO xs.length 1) 1) 1) 1) 1) (List.take (addO (addO (addO (addO xs.length 1) 1) 1) 1) (List.take (addO (addO (addO xs.length 1)
 1) 1) (List.take (addO (addO xs.length 1) 1) (List.take (addO xs.length 1) (List.take xs.length xs ++ [0]) ++ [0]) ++ [0]) ++ [0]) ++ [0]) ++ [0]) ++ [0]) ++ [0]) ++ [x / 72057594037927936 % 256]) ++ [x / 281474976710656 % 256]) ++ [x / 1099511627776 % 256]) ++ [x / 4294967296 % 256]) ++ [x / 16777216 % 256]) ++ [x / 65536 % 256]) ++ [x / 256 % 256]).length, .leN (addO (addO (addO (addO (addO (addO
 (addO (addO (addO (addO (addO (addO (addO (addO (addO (addO xs.length 1) 1) 1) 1) 1) 1) 1) 1) 1) 1) 1) 1) 1) 1) 1) 1) 140737488355328]) : Ok (C48_64 x zs xs g4 g6 o4) := Ok.dem (fl := bitsF 184 23178831347429280781870210780075388069455994388213604295) (by kernel_rfl) (by kernel_rfl) (by kernel_rfl) h
theorem C48_64_ex {x : Int} {zs xs : List Int} {g4 g6 : Nat} {o4 : Bool} : (C48_64 x zs xs g4 g6 o4).ex = .normal := by kernel_rfl
theorem C48_64_fm {x : Int} {zs xs : List Int} {g4 g6 : Nat} {o4 : Bool} : (C48_64 x zs xs g4 g6 o4).fm = [(5, .slice 1 6 (g6 + 1 + 1 + 1 + 1 + 1 + 1 + 1 + 1 + 1 + 1 + 1 + 1 + 1 + 1 + 1 + 1) 0 (addO (addO (addO (addO (addO (addO (addO (addO (addO (addO (addO (addO (addO (addO (addO (addO xs.length 1) 1) 1) 1) 1) 1) 1) 1) 1) 1) 1) 1) 1) 1) 1) 1) none)] := by kernel_rfl
theorem C48_64_tab {x : Int} {zs xs : List Int} {g4 g6 : Nat} {o4 : Bool} : (C48_64 x zs xs g4 g6 o4).tab = [some ⟨.ints .i64 [1, 8, 7], 0, false, 3⟩, some ⟨.ints .i64 [19, 61, 6], 0, false, 3⟩, some ⟨.ints .i64 [28, 34, 39], 0, false, 3⟩, some ⟨.ints .i64 [14, 18, 41], 0, false, 3⟩, some ⟨.ints .u8 zs, g4, o4, 5⟩, some ⟨.agg [.int .i64 64, .int .i64 128, .int .i64 80, .slice 1 0 0 0 3 (some 3),
 .slice 1 1 0 0 3 (some 3), .slice 1 2 0 0 3 (some 3), .slice 1 3 0 0 3 (some 3)], 0, true, 54⟩, some ⟨.ints .u8 (List.take (addO (addO (addO (addO (addO (addO (addO (addO (addO (addO (addO (addO (addO (addO (addO xs.length 1) 1) 1) 1) 1) 1) 1) 1) 1) 1) 1) 1) 1) 1) 1) (List.take (addO (addO (addO (addO (addO (addO (addO (addO (addO (addO (addO (addO (addO (addO xs.length 1) 1) 1) 1) 1) 1) 1) 1) 1)
 1) 1) 1) 1) 1) (List.take (addO (addO (addO (addO (addO (addO (addO (addO (addO (addO (addO (addO (addO xs.length 1) 1) 1) 1) 1) 1) 1) 1) 1) 1) 1) 1) 1) (List.take (addO (addO (addO (addO (addO (addO (addO (addO (addO (addO (addO (addO xs.length 1) 1) 1) 1) 1) 1) 1) 1) 1) 1) 1) 1) (List.take (addO (addO (addO (addO (addO (addO (addO (addO (addO (addO (addO xs.length 1) 1) 1) 1) 1) 1) 1) 1) 1) 1) 1)
 (List.take (addO (addO (addO (addO (addO (addO (addO (addO (addO (addO xs.length 1) 1) 1) 1) 1) 1) 1) 1) 1) 1) (List.take (addO (addO (addO (addO (addO (addO (addO (addO (addO xs.length 1) 1) 1) 1) 1) 1) 1) 1) 1) (List.take (addO (addO (addO (addO (addO (addO (addO (addO xs.length 1) 1) 1) 1) 1) 1) 1) 1) (List.take (addO (addO (addO (addO (addO (addO (addO xs.length 1) 1) 1) 1) 1) 1) 1) (List.take
 (addO (addO (addO (addO (addO (addO xs.length 1) 1) 1) 1) 1) 1) (List.take (addO (addO (addO (addO (addO xs.length 1) 1) 1) 1) 1) (List.take (addO (addO (addO (addO xs.length 1) 1) 1) 1) (List.take (addO (addO (addO xs.length 1) 1) 1) (List.take (addO (addO xs.length 1) 1) (List.take (addO xs.length 1) (List.take xs.length xs ++ [0]) ++ [0]) ++ [0]) ++ [0]) ++ [0]) ++ [0]) ++ [0]) ++ [0]) ++ [x /
 72057594037927936 % 256]) ++ [x / 281474976710656 % 256]) ++ [x / 1099511627776 % 256]) ++ [x / 4294967296 % 256]) ++ [x / 16777216 % 256]) ++ [x / 65536 % 256]) ++ [x / 256 % 256]) ++ [x / 1 % 256]), g6 + 1 + 1 + 1 + 1 + 1 + 1 + 1 + 1 + 1 + 1 + 1 + 1 + 1 + 1 + 1 + 1, true, 5⟩] := by kernel_rfl
end Go.Abs

set_option linter.unusedVariables false
set_option linter.unusedSimpArgs false
set_option maxRecDepth 8000
set_option maxHeartbeats 4000000
namespace Go.Abs
open Go.Proofs Go.Proofs.Tryd
/-! ### the document's padding -/
/-! width 32 -/
def FA48_32 (g4 off n : Nat) (cp : Option Nat) (g6 m : Nat) : Fm := [(1, .slice 1 4 g4 off n cp), (2, .var 5 0), (5, .slice 1 6 g6 0 m none)]
def TA48_32 (zs : List Int) (g4 : Nat) (o4 : Bool) (xs : List Int) (g6 : Nat) : Tab := [some ⟨.ints .i64 [7, 18, 3], 0, false, 3⟩, some ⟨.ints .i64 [17, 19, 10], 0, false, 3⟩, some ⟨.ints .i64 [2, 13, 22], 0, false, 3⟩, some ⟨.ints .i64 [6, 11, 25], 0, false, 3⟩, some ⟨.ints .u8 zs, g4, o4, 5⟩, some ⟨.agg [.int .i64 32, .int .i64 64, .int .i64 64, .slice 1 0 0 0 3 (some 3), .slice 1 1 0 0 3 (some 3), .slice 1 2 0 0 3 (some 3), .slice 1 3 0 0 3 (some 3)], 0, true, 54⟩, some ⟨.ints .u8 xs, g6, true, 5⟩]
theorem loopA48_32 {zs xs : List Int} {g4 g6 off n : Nat} {cp : Option Nat} {o4 : Bool} (hl : xs.length + 64 ≤ 140737488355328) :
    To (eS0 []) 53 7 (.block 0 (.loop (roundOf 0 f48))) (FA48_32 g4 off n cp g6 xs.length) (TA48_32 zs g4 o4 xs g6) .normal (FA48_32 g4 off n cp (g6 + padLaw 64 xs.length) (xs.length + padLaw 64 xs.length)) (TA48_32 zs g4 o4 (xs ++ zeroLaw (padLaw 64 xs.length)) (g6 + padLaw 64 xs.length)) := by
  have hle := pad64_le xs.length
  have hat := pad64_at xs.length
  refine To.start (T0 := TA48_32 zs g4 o4 (xs ++ zeroLaw 0) g6) (by rw [show xs ++ zeroLaw 0 = xs from List.append_nil _]) ?_
  refine To.rounds (fun i => FA48_32 g4 off n cp (g6 + i) (xs.length + i)) (fun i => TA48_32 zs g4 o4 (xs ++ zeroLaw i) (g6 + i)) (padLaw 64 xs.length) (fun i hi => ?_)
    (To.of (o := B48_32 off n (xs.length + padLaw 64 xs.length) cp zs (xs ++ zeroLaw (padLaw 64 xs.length)) g4 (g6 + padLaw 64 xs.length) o4) eS0_ok hmS (Nat.le_refl 7) OrcOk.nil rfl (B48_32_ok ?_) B48_32_ex B48_32_fm B48_32_tab)
  · have hne := pad64_lt hi
    have hlen : (xs ++ zeroLaw i).length = xs.length + i := by rw [List.length_append, zero_len]
    refine To.of (o := A48_32 off n (xs.length + i) cp zs (xs ++ zeroLaw i) g4 (g6 + i) o4) eS0_ok hmS (Nat.le_refl 7) OrcOk.nil rfl (A48_32_ok ?_) A48_32_ex (by rw [A48_32_fm, addO_eq]; rfl) ?_
    · simp only [allP, Con.h, hlen, addO_eq, Nat.zero_add, Nat.le_refl, eq_self, true_and, and_true]
      refine ⟨by omega, ?_, by omega⟩
      rw [show (((xs.length + i : Nat) : Int) + 8) = ((xs.length + i + 8 : Nat) : Int) by omega, show (64 : Int) = ((64 : Nat) : Int) from rfl, tmod_nat, bne_iff_ne]
      omega
    · rw [A48_32_tab, List.take_of_length_le (by omega), zero_snoc]
      rfl
  · simp only [allP, Con.h, eq_self, true_and, and_true]
    refine ⟨by omega, ?_⟩
    rw [show (((xs.length + padLaw 64 xs.length : Nat) : Int) + 8) = ((xs.length + padLaw 64 xs.length + 8 : Nat) : Int) by omega, show (64 : Int) = ((64 : Nat) : Int) from rfl, tmod_nat, show (xs.length + padLaw 64 xs.length + 8) % 64 = 0 by omega]
    rfl
noncomputable def gA48_32c (vs : List AVal) (T : Tab) (zs : List Int) (xs : List Int) (g4 : Nat) (g6 : Nat) (o4 : Bool) (off : Nat) (n : Nat) (cp : Option Nat) (m : Nat) : Out := ⟨[.tab T [some ⟨.ints .i64 [7, 18, 3], 0, false, 3⟩, some ⟨.ints .i64 [17, 19, 10], 0, false, 3⟩, some ⟨.ints .i64 [2, 13, 22], 0, false, 3⟩, some ⟨.ints .i64 [6, 11, 25], 0, false, 3⟩, some ⟨.ints .u8 zs, g4, o4, 5⟩, some ⟨.agg [.int .i64 32, .int .i64 64, .int .i64 64, .slice 1 0 0 0 3 (some 3), .slice 1 1 0 0 3 (some 3), .slice 1 2 0 0 3 (some 3), .slice 1 3 0 0 3 (some 3)], 0, true, 54⟩, some ⟨.ints .u8 xs, g6, true, 5⟩], .val (.tuple vs) (.tuple [.slice 1 4 g4 off n cp, .var 5 0, .slice 1 6 g6 0 m none]), .eqN m xs.length, .leN (xs.length + 64) 140737488355328], .normal, [(1, .slice 1 4 g4 off n cp), (2, .var 5 0), (5, .slice 1 6 (g6 + padLaw 64 m) 0 (m + padLaw 64 m) none)], [some ⟨.ints .i64 [7, 18, 3], 0, false, 3⟩, some ⟨.ints .i64 [17, 19, 10], 0, false, 3⟩, some ⟨.ints .i64 [2, 13, 22], 0, false, 3⟩, some ⟨.ints .i64 [6, 11, 25], 0, false, 3⟩, some ⟨.ints .u8 zs, g4, o4, 5⟩, some ⟨.agg [.int .i64 32, .int .i64 64, .int .i64 64, .slice 1 0 0 0 3 (some 3), .slice 1 1 0 0 3 (some 3), .slice 1 2 0 0 3 (some 3), .slice 1 3 0 0 3 (some 3)], 0, true, 54⟩, some ⟨.ints .u8 (xs ++ zeroLaw (padLaw 64 m)), g6 + padLaw 64 m, true, 5⟩], []⟩
theorem gA48_32c_ok {vs : List AVal} {T : Tab} {zs : List Int} {xs : List Int} {g4 : Nat} {g6 : Nat} {o4 : Bool} {off : Nat} {n : Nat} {cp : Option Nat} {m : Nat} (h : Ok (gA48_32c vs T zs xs g4 g6 o4 off n cp m)) : To (eS0 []) 53 7 (.block 0 (.loop (roundOf 0 f48))) (zipF [1,2,5] vs) T (gA48_32c vs T zs xs g4 g6 o4 off n cp m).ex (gA48_32c vs T zs xs g4 g6 o4 off n cp m).fm (gA48_32c vs T zs xs g4 g6 o4 off n cp m).tab := by
  obtain ⟨hT, hv, h1, h2, _⟩ := h.h
  simp only [Con.h] at hT hv h1 h2
  injection hv with hv
  subst hT hv
  subst h1
  exact loopA48_32 h2
noncomputable def gA48_32 : List AVal → Tab → Out := fun vs T => gA48_32c vs T (xsAt T 4) (xsAt T 6) (gAt T 4) (gAt T 6) (owAt T 4) (offOf (vAt vs 0)) (lenOf (vAt vs 0)) (capOf (vAt vs 0)) (lenOf (vAt vs 2))
theorem gA48_32_ok : BlkOk (eS0 []) f48 0 (.loop (roundOf 0 f48)) (blkS 7 [1,2,5] gA48_32) := blkS_ok fun vs T h => gA48_32c_ok h
noncomputable def gC48_32c (vs : List AVal) (T : Tab) (zs : List Int) (xs : List Int) (g4 : Nat) (g6 : Nat) (o4 : Bool) (m : Nat) (x : Int) : Out := ⟨[.tab T [some ⟨.ints .i64 [7, 18, 3], 0, false, 3⟩, some ⟨.ints .i64 [17, 19, 10], 0, false, 3⟩, some ⟨.ints .i64 [2, 13, 22], 0, false, 3⟩, some ⟨.ints .i64 [6, 11, 25], 0, false, 3⟩, some ⟨.ints .u8 zs, g4, o4, 5⟩, some ⟨.agg [.int .i64 32, .int .i64 64, .int .i64 64, .slice 1 0 0 0 3 (some 3), .slice 1 1 0 0 3 (some 3), .slice 1 2 0 0 3 (some 3), .slice 1 3 0 0 3 (some 3)], 0, true, 54⟩, some ⟨.ints .u8 xs, g6, true, 5⟩], .val (.tuple vs) (.tuple [.slice 1 6 g6 0 m none, .int .u64 x, .int .i64 7]), .eqN m xs.length, .leN (xs.length + 64) 140737488355328], .normal, [(5, .slice 1 6 (g6 + 8) 0 (m + 8) none)], [some ⟨.ints .i64 [7, 18, 3], 0, false, 3⟩, some ⟨.ints .i64 [17, 19, 10], 0, false, 3⟩, some ⟨.ints .i64 [2, 13, 22], 0, false, 3⟩, some ⟨.ints .i64 [6, 11, 25], 0, false, 3⟩, some ⟨.ints .u8 zs, g4, o4, 5⟩, some ⟨.agg [.int .i64 32, .int .i64 64, .int .i64 64, .slice 1 0 0 0 3 (some 3), .slice 1 1 0 0 3 (some 3), .slice 1 2 0 0 3 (some 3), .slice 1 3 0 0 3 (some 3)], 0, true, 54⟩, some ⟨.ints .u8 (xs ++ zeroLaw 0 ++ beLaw 8 x), g6 + 8, true, 5⟩], []⟩
theorem gC48_32c_ok {vs : List AVal} {T : Tab} {zs : List Int} {xs : List Int} {g4 : Nat} {g6 : Nat} {o4 : Bool} {m : Nat} {x : Int} (h : Ok (gC48_32c vs T zs xs g4 g6 o4 m x)) : To (eS0 []) 53 7 (.block 2 (.loop (roundOf 2 f48))) (zipF [5,6,7] vs) T (gC48_32c vs T zs xs g4 g6 o4 m x).ex (gC48_32c vs T zs xs g4 g6 o4 m x).fm (gC48_32c vs T zs xs g4 g6 o4 m x).tab := by
  obtain ⟨hT, hv, h1, h2, _⟩ := h.h
  simp only [Con.h] at hT hv h1 h2
  injection hv with hv
  subst hT hv
  subst h1
  refine To.of (o := C48_32 x zs xs g4 g6 o4) eS0_ok hmS (Nat.le_refl 7) OrcOk.nil rfl (C48_32_ok ?_) C48_32_ex (by rw [C48_32_fm]; simp only [addO_eq]; rfl) ?_
  · simp only [allP, Con.h, addO_eq, List.take_length, take_snoc, List.length_append, List.length_cons, List.length_nil, Nat.zero_add, Nat.le_refl, eq_self, true_and, and_true]
    omega
  · rw [C48_32_tab]
    simp only [addO_eq, List.take_length, take_snoc, List.length_append, List.length_cons, List.length_nil, Nat.zero_add]
    show _ = ([some ⟨.ints .i64 [7, 18, 3], 0, false, 3⟩, some ⟨.ints .i64 [17, 19, 10], 0, false, 3⟩, some ⟨.ints .i64 [2, 13, 22], 0, false, 3⟩, some ⟨.ints .i64 [6, 11, 25], 0, false, 3⟩, some ⟨.ints .u8 zs, g4, o4, 5⟩, some ⟨.agg [.int .i64 32, .int .i64 64, .int .i64 64, .slice 1 0 0 0 3 (some 3), .slice 1 1 0 0 3 (some 3), .slice 1 2 0 0 3 (some 3), .slice 1 3 0 0 3 (some 3)], 0, true, 54⟩, some ⟨.ints .u8 (xs ++ zeroLaw 0 ++ beLaw 8 x), g6 + 8, true, 5⟩] : Tab)
    simp only [List.append_assoc]
    rfl
noncomputable def gC48_32 : List AVal → Tab → Out := fun vs T => gC48_32c vs T (xsAt T 4) (xsAt T 6) (gAt T 4) (gAt T 6) (owAt T 4) (lenOf (vAt vs 0)) (iOf (vAt vs 1))
theorem gC48_32_ok : BlkOk (eS0 []) f48 2 (.loop (roundOf 2 f48)) (blkS 7 [5,6,7] gC48_32) := blkS_ok fun vs T h => gC48_32c_ok h
noncomputable def orc48_32 : OrcL := [(0, blkS 7 [1,2,5] gA48_32), (2, blkS 7 [5,6,7] gC48_32)]
theorem orc48_32_ok : FnOrc (eS0 []) f48 orc48_32 := FnOrc.cons gA48_32_ok (by kernel_rfl) (FnOrc.cons gC48_32_ok (by kernel_rfl) FnOrc.nil)
noncomputable def R48_32 (zs : List Int) (g4 off n : Nat) (cp : Option Nat) : Res := resG 5 [0, 1, 2, 3, 4, 6] (runF (eS0 []) f48 orc48_32 1000 [.agg [.int .i64 32, .int .i64 64, .int .i64 64, .slice 1 0 0 0 3 (some 3), .slice 1 1 0 0 3 (some 3), .slice 1 2 0 0 3 (some 3), .slice 1 3 0 0 3 (some 3)], .slice 1 4 g4 off n cp] [some ⟨.ints .i64 [7, 18, 3], 0, false, 3⟩, some ⟨.ints .i64 [17, 19, 10], 0, false, 3⟩, some ⟨.ints .i64 [2, 13, 22], 0, false, 3⟩, some ⟨.ints .i64 [6, 11, 25], 0, false, 3⟩, some ⟨.ints .u8 zs, g4, false, 5⟩] [])
theorem R48_32_ok {zs : List Int} {g4 off n : Nat} {cp : Option Nat} (h : allP [.leN n 140737488355328, .eqN g4 g4, .leN (off + n) zs.length, .leN (0 + n) ([] ++ List.take n (dropO off zs)).length, .leN (addO n 1) 140737488355328, .eqN (addO n 1) (List.take n ([] ++ List.take n (dropO off zs)) ++ [128]).length, .leN ((List.take n ([] ++ List.take n (dropO off zs)) ++ [128]).length + 64)
 140737488355328, .eqN g4 g4, .rng 0 (↑n : Int) 18446744073709551615, .eqN (addO n 1 + padLaw 64 (addO n 1)) (List.take n ([] ++ List.take n (dropO off zs)) ++ [128] ++ zeroLaw (padLaw 64 (addO n 1))).length, .leN ((List.take n ([] ++ List.take n (dropO off zs)) ++ [128] ++ zeroLaw (padLaw 64 (addO n 1))).length + 64) 140737488355328]) : OkR (R48_32 zs g4 off n cp) := OkR.dem (fl := bitsF 32
 264300487) (by kernel_rfl) (by kernel_rfl) (by kernel_rfl) h
theorem R48_32_val {zs : List Int} {g4 off n : Nat} {cp : Option Nat} : (R48_32 zs g4 off n cp).val = .slice 1 5 (2 + padLaw 64 (addO n 1) + 8) 0 (addO n 1 + padLaw 64 (addO n 1) + 8) none := by kernel_rfl
theorem R48_32_tab {zs : List Int} {g4 off n : Nat} {cp : Option Nat} : (R48_32 zs g4 off n cp).tab = [some ⟨.ints .i64 [7, 18, 3], 0, false, 3⟩, some ⟨.ints .i64 [17, 19, 10], 0, false, 3⟩, some ⟨.ints .i64 [2, 13, 22], 0, false, 3⟩, some ⟨.ints .i64 [6, 11, 25], 0, false, 3⟩, some ⟨.ints .u8 zs, g4, false, 5⟩, some ⟨.ints .u8 (List.take n ([] ++ List.take n (dropO off zs)) ++ [128] ++ zeroLaw
 (padLaw 64 (addO n 1)) ++ zeroLaw 0 ++ beLaw 8 ((↑n : Int) * 8 % 18446744073709551616)), 2 + padLaw 64 (addO n 1) + 8, true, 5⟩] := by kernel_rfl
/-! width 64 -/
def FA48_64 (g4 off n : Nat) (cp : Option Nat) (g6 m : Nat) : Fm := [(1, .slice 1 4 g4 off n cp), (2, .var 5 0), (5, .slice 1 6 g6 0 m none)]
def TA48_64 (zs : List Int) (g4 : Nat) (o4 : Bool) (xs : List Int) (g6 : Nat) : Tab := [some ⟨.ints .i64 [1, 8, 7], 0, false, 3⟩, some ⟨.ints .i64 [19, 61, 6], 0, false, 3⟩, some ⟨.ints .i64 [28, 34, 39], 0, false, 3⟩, some ⟨.ints .i64 [14, 18, 41], 0, false, 3⟩, some ⟨.ints .u8 zs, g4, o4, 5⟩, some ⟨.agg [.int .i64 64, .int .i64 128, .int .i64 80, .slice 1 0 0 0 3 (some 3), .slice 1 1 0 0 3 (some 3), .slice 1 2 0 0 3 (some 3), .slice 1 3 0 0 3 (some 3)], 0, true, 54⟩, some ⟨.ints .u8 xs, g6, true, 5⟩]
theorem loopA48_64 {zs xs : List Int} {g4 g6 off n : Nat} {cp : Option Nat} {o4 : Bool} (hl : xs.length + 128 ≤ 140737488355328) :
    To (eS0 []) 53 7 (.block 0 (.loop (roundOf 0 f48))) (FA48_64 g4 off n cp g6 xs.length) (TA48_64 zs g4 o4 xs g6) .normal (FA48_64 g4 off n cp (g6 + padLaw 128 xs.length) (xs.length + padLaw 128 xs.length)) (TA48_64 zs g4 o4 (xs ++ zeroLaw (padLaw 128 xs.length)) (g6 + padLaw 128 xs.length)) := by
  have hle := pad128_le xs.length
  have hat := pad128_at xs.length
  refine To.start (T0 := TA48_64 zs g4 o4 (xs ++ zeroLaw 0) g6) (by rw [show xs ++ zeroLaw 0 = xs from List.append_nil _]) ?_
  refine To.rounds (fun i => FA48_64 g4 off n cp (g6 + i) (xs.length + i)) (fun i => TA48_64 zs g4 o4 (xs ++ zeroLaw i) (g6 + i)) (padLaw 128 xs.length) (fun i hi => ?_)
    (To.of (o := B48_64 off n (xs.length + padLaw 128 xs.length) cp zs (xs ++ zeroLaw (padLaw 128 xs.length)) g4 (g6 + padLaw 128 xs.length) o4) eS0_ok hmS (Nat.le_refl 7) OrcOk.nil rfl (B48_64_ok ?_) B48_64_ex B48_64_fm B48_64_tab)
  · have hne := pad128_lt hi
    have hlen : (xs ++ zeroLaw i).length = xs.length + i := by rw [List.length_append, zero_len]
    refine To.of (o := A48_64 off n (xs.length + i) cp zs (xs ++ zeroLaw i) g4 (g6 + i) o4) eS0_ok hmS (Nat.le_refl 7) OrcOk.nil rfl (A48_64_ok ?_) A48_64_ex (by rw [A48_64_fm, addO_eq]; rfl) ?_
    · simp only [allP, Con.h, hlen, addO_eq, Nat.zero_add, Nat.le_refl, eq_self, true_and, and_true]
      refine ⟨by omega, ?_, by omega⟩
      rw [show (((xs.length + i : Nat) : Int) + 16) = ((xs.length + i + 16 : Nat) : Int) by omega, show (128 : Int) = ((128 : Nat) : Int) from rfl, tmod_nat, bne_iff_ne]
      omega
    · rw [A48_64_tab, List.take_of_length_le (by omega), zero_snoc]
      rfl
  · simp only [allP, Con.h, eq_self, true_and, and_true]
    refine ⟨by omega, ?_⟩
    rw [show (((xs.length + padLaw 128 xs.length : Nat) : Int) + 16) = ((xs.length + padLaw 128 xs.length + 16 : Nat) : Int) by omega, show (128 : Int) = ((128 : Nat) : Int) from rfl, tmod_nat, show (xs.length + padLaw 128 xs.length + 16) % 128 = 0 by omega]
    rfl
noncomputable def gA48_64c (vs : List AVal) (T : Tab) (zs : List Int) (xs : List Int) (g4 : Nat) (g6 : Nat) (o4 : Bool) (off : Nat) (n : Nat) (cp : Option Nat) (m : Nat) : Out := ⟨[.tab T [some ⟨.ints .i64 [1, 8, 7], 0, false, 3⟩, some ⟨.ints .i64 [19, 61, 6], 0, false, 3⟩, some ⟨.ints .i64 [28, 34, 39], 0, false, 3⟩, some ⟨.ints .i64 [14, 18, 41], 0, false, 3⟩, some ⟨.ints .u8 zs, g4, o4, 5⟩, some ⟨.agg [.int .i64 64, .int .i64 128, .int .i64 80, .slice 1 0 0 0 3 (some 3), .slice 1 1 0 0 3 (some 3), .slice 1 2 0 0 3 (some 3), .slice 1 3 0 0 3 (some 3)], 0, true, 54⟩, some ⟨.ints .u8 xs, g6, true, 5⟩], .val (.tuple vs) (.tuple [.slice 1 4 g4 off n cp, .var 5 0, .slice 1 6 g6 0 m none]), .eqN m xs.length, .leN (xs.length + 128) 140737488355328], .normal, [(1, .slice 1 4 g4 off n cp), (2, .var 5 0), (5, .slice 1 6 (g6 + padLaw 128 m) 0 (m + padLaw 128 m) none)], [some ⟨.ints .i64 [1, 8, 7], 0, false, 3⟩, some ⟨.ints .i64 [19, 61, 6], 0, false, 3⟩, some ⟨.ints .i64 [28, 34, 39], 0, false, 3⟩, some ⟨.ints .i64 [14, 18, 41], 0, false, 3⟩, some ⟨.ints .u8 zs, g4, o4, 5⟩, some ⟨.agg [.int .i64 64, .int .i64 128, .int .i64 80, .slice 1 0 0 0 3 (some 3), .slice 1 1 0 0 3 (some 3), .slice 1 2 0 0 3 (some 3), .slice 1 3 0 0 3 (some 3)], 0, true, 54⟩, some ⟨.ints .u8 (xs ++ zeroLaw (padLaw 128 m)), g6 + padLaw 128 m, true, 5⟩], []⟩
theorem gA48_64c_ok {vs : List AVal} {T : Tab} {zs : List Int} {xs : List Int} {g4 : Nat} {g6 : Nat} {o4 : Bool} {off : Nat} {n : Nat} {cp : Option Nat} {m : Nat} (h : Ok (gA48_64c vs T zs xs g4 g6 o4 off n cp m)) : To (eS0 []) 53 7 (.block 0 (.loop (roundOf 0 f48))) (zipF [1,2,5] vs) T (gA48_64c vs T zs xs g4 g6 o4 off n cp m).ex (gA48_64c vs T zs xs g4 g6 o4 off n cp m).fm (gA48_64c vs T zs xs g4 g6 o4 off n cp m).tab := by
  obtain ⟨hT, hv, h1, h2, _⟩ := h.h
  simp only [Con.h] at hT hv h1 h2
  injection hv with hv
  subst hT hv
  subst h1
  exact loopA48_64 h2
noncomputable def gA48_64 : List AVal → Tab → Out := fun vs T => gA48_64c vs T (xsAt T 4) (xsAt T 6) (gAt T 4) (gAt T 6) (owAt T 4) (offOf (vAt vs 0)) (lenOf (vAt vs 0)) (capOf (vAt vs 0)) (lenOf (vAt vs 2))
theorem gA48_64_ok : BlkOk (eS0 []) f48 0 (.loop (roundOf 0 f48)) (blkS 7 [1,2,5] gA48_64) := blkS_ok fun vs T h => gA48_64c_ok h
noncomputable def gC48_64c (vs : List AVal) (T : Tab) (zs : List Int) (xs : List Int) (g4 : Nat) (g6 : Nat) (o4 : Bool) (m : Nat) (x : Int) : Out := ⟨[.tab T [some ⟨.ints .i64 [1, 8, 7], 0, false, 3⟩, some ⟨.ints .i64 [19, 61, 6], 0, false, 3⟩, some ⟨.ints .i64 [28, 34, 39], 0, false, 3⟩, some ⟨.ints .i64 [14, 18, 41], 0, false, 3⟩, some ⟨.ints .u8 zs, g4, o4, 5⟩, some ⟨.agg [.int .i64 64, .int .i64 128, .int .i64 80, .slice 1 0 0 0 3 (some 3), .slice 1 1 0 0 3 (some 3), .slice 1 2 0 0 3 (some 3), .slice 1 3 0 0 3 (some 3)], 0, true, 54⟩, some ⟨.ints .u8 xs, g6, true, 5⟩], .val (.tuple vs) (.tuple [.slice 1 6 g6 0 m none, .int .u64 x, .int .i64 15]), .eqN m xs.length, .leN (xs.length + 128) 140737488355328], .normal, [(5, .slice 1 6 (g6 + 16) 0 (m + 16) none)], [some ⟨.ints .i64 [1, 8, 7], 0, false, 3⟩, some ⟨.ints .i64 [19, 61, 6], 0, false, 3⟩, some ⟨.ints .i64 [28, 34, 39], 0, false, 3⟩, some ⟨.ints .i64 [14, 18, 41], 0, false, 3⟩, some ⟨.ints .u8 zs, g4, o4, 5⟩, some ⟨.agg [.int .i64 64, .int .i64 128, .int .i64 80, .slice 1 0 0 0 3 (some 3), .slice 1 1 0 0 3 (some 3), .slice 1 2 0 0 3 (some 3), .slice 1 3 0 0 3 (some 3)], 0, true, 54⟩, some ⟨.ints .u8 (xs ++ zeroLaw 8 ++ beLaw 8 x), g6 + 16, true, 5⟩], []⟩
theorem gC48_64c_ok {vs : List AVal} {T : Tab} {zs : List Int} {xs : List Int} {g4 : Nat} {g6 : Nat} {o4 : Bool} {m : Nat} {x : Int} (h : Ok (gC48_64c vs T zs xs g4 g6 o4 m x)) : To (eS0 []) 53 7 (.block 2 (.loop (roundOf 2 f48))) (zipF [5,6,7] vs) T (gC48_64c vs T zs xs g4 g6 o4 m x).ex (gC48_64c vs T zs xs g4 g6 o4 m x).fm (gC48_64c vs T zs xs g4 g6 o4 m x).tab := by
  obtain ⟨hT, hv, h1, h2, _⟩ := h.h
  simp only [Con.h] at hT hv h1 h2
  injection hv with hv
  subst hT hv
  subst h1
  refine To.of (o := C48_64 x zs xs g4 g6 o4) eS0_ok hmS (Nat.le_refl 7) OrcOk.nil rfl (C48_64_ok ?_) C48_64_ex (by rw [C48_64_fm]; simp only [addO_eq]; rfl) ?_
  · simp only [allP, Con.h, addO_eq, List.take_length, take_snoc, List.length_append, List.length_cons, List.length_nil, Nat.zero_add, Nat.le_refl, eq_self, true_and, and_true]
    omega
  · rw [C48_64_tab]
    simp only [addO_eq, List.take_length, take_snoc, List.length_append, List.length_cons, List.length_nil, Nat.zero_add]
    show _ = ([some ⟨.ints .i64 [1, 8, 7], 0, false, 3⟩, some ⟨.ints .i64 [19, 61, 6], 0, false, 3⟩, some ⟨.ints .i64 [28, 34, 39], 0, false, 3⟩, some ⟨.ints .i64 [14, 18, 41], 0, false, 3⟩, some ⟨.ints .u8 zs, g4, o4, 5⟩, some ⟨.agg [.int .i64 64, .int .i64 128, .int .i64 80, .slice 1 0 0 0 3 (some 3), .slice 1 1 0 0 3 (some 3), .slice 1 2 0 0 3 (some 3), .slice 1 3 0 0 3 (some 3)], 0, true, 54⟩, some ⟨.ints .u8 (xs ++ zeroLaw 8 ++ beLaw 8 x), g6 + 16, true, 5⟩] : Tab)
    simp only [List.append_assoc]
    rfl
noncomputable def gC48_64 : List AVal → Tab → Out := fun vs T => gC48_64c vs T (xsAt T 4) (xsAt T 6) (gAt T 4) (gAt T 6) (owAt T 4) (lenOf (vAt vs 0)) (iOf (vAt vs 1))
theorem gC48_64_ok : BlkOk (eS0 []) f48 2 (.loop (roundOf 2 f48)) (blkS 7 [5,6,7] gC48_64) := blkS_ok fun vs T h => gC48_64c_ok h
noncomputable def orc48_64 : OrcL := [(0, blkS 7 [1,2,5] gA48_64), (2, blkS 7 [5,6,7] gC48_64)]
theorem orc48_64_ok : FnOrc (eS0 []) f48 orc48_64 := FnOrc.cons gA48_64_ok (by kernel_rfl) (FnOrc.cons gC48_64_ok (by kernel_rfl) FnOrc.nil)
noncomputable def R48_64 (zs : List Int) (g4 off n : Nat) (cp : Option Nat) : Res := resG 5 [0, 1, 2, 3, 4, 6] (runF (eS0 []) f48 orc48_64 1000 [.agg [.int .i64 64, .int .i64 128, .int .i64 80, .slice 1 0 0 0 3 (some 3), .slice 1 1 0 0 3 (some 3), .slice 1 2 0 0 3 (some 3), .slice 1 3 0 0 3 (some 3)], .slice 1 4 g4 off n cp] [some ⟨.ints .i64 [1, 8, 7], 0, false, 3⟩, some ⟨.ints .i64 [19, 61, 6], 0, false, 3⟩, some ⟨.ints .i64 [28, 34, 39], 0, false, 3⟩, some ⟨.ints .i64 [14, 18, 41], 0, false, 3⟩, some ⟨.ints .u8 zs, g4, false, 5⟩] [])
theorem R48_64_ok {zs : List Int} {g4 off n : Nat} {cp : Option Nat} (h : allP [.leN n 140737488355328, .eqN g4 g4, .leN (off + n) zs.length, .leN (0 + n) ([] ++ List.take n (dropO off zs)).length, .leN (addO n 1) 140737488355328, .eqN (addO n 1) (List.take n ([] ++ List.take n (dropO off zs)) ++ [128]).length, .leN ((List.take n ([] ++ List.take n (dropO off zs)) ++ [128]).length + 128)
 140737488355328, .eqN g4 g4, .rng 0 (↑n : Int) 18446744073709551615, .eqN (addO n 1 + padLaw 128 (addO n 1)) (List.take n ([] ++ List.take n (dropO off zs)) ++ [128] ++ zeroLaw (padLaw 128 (addO n 1))).length, .leN ((List.take n ([] ++ List.take n (dropO off zs)) ++ [128] ++ zeroLaw (padLaw 128 (addO n 1))).length + 128) 140737488355328]) : OkR (R48_64 zs g4 off n cp) := OkR.dem (fl := bitsF 32
 264300487) (by kernel_rfl) (by kernel_rfl) (by kernel_rfl) h
theorem R48_64_val {zs : List Int} {g4 off n : Nat} {cp : Option Nat} : (R48_64 zs g4 off n cp).val = .slice 1 5 (2 + padLaw 128 (addO n 1) + 16) 0 (addO n 1 + padLaw 128 (addO n 1) + 16) none := by kernel_rfl
theorem R48_64_tab {zs : List Int} {g4 off n : Nat} {cp : Option Nat} : (R48_64 zs g4 off n cp).tab = [some ⟨.ints .i64 [1, 8, 7], 0, false, 3⟩, some ⟨.ints .i64 [19, 61, 6], 0, false, 3⟩, some ⟨.ints .i64 [28, 34, 39], 0, false, 3⟩, some ⟨.ints .i64 [14, 18, 41], 0, false, 3⟩, some ⟨.ints .u8 zs, g4, false, 5⟩, some ⟨.ints .u8 (List.take n ([] ++ List.take n (dropO off zs)) ++ [128] ++ zeroLaw
 (padLaw 128 (addO n 1)) ++ zeroLaw 8 ++ beLaw 8 ((↑n : Int) * 8 % 18446744073709551616)), 2 + padLaw 128 (addO n 1) + 16, true, 5⟩] := by kernel_rfl
end Go.Abs

set_option linter.unusedVariables false
set_option linter.unusedSimpArgs false
set_option maxRecDepth 8000
set_option maxHeartbeats 4000000
namespace Go.Abs
open Go.Proofs Go.Proofs.Tryd
/-! ### the document's padding: contract; pieces of the sum -/
noncomputable def sm48_32c (args : List AVal) (T : Tab) (zs : List Int) (g4 : Nat) (off : Nat) (n : Nat) (cp : Option Nat) : Res := ⟨[.tab T [some ⟨.ints .i64 [7, 18, 3], 0, false, 3⟩, some ⟨.ints .i64 [17, 19, 10], 0, false, 3⟩, some ⟨.ints .i64 [2, 13, 22], 0, false, 3⟩, some ⟨.ints .i64 [6, 11, 25], 0, false, 3⟩, some ⟨.ints .u8 zs, g4, false, 5⟩], .val (.tuple args) (.tuple [.agg [.int .i64 32, .int .i64 64, .int .i64 64, .slice 1 0 0 0 3 (some 3), .slice 1 1 0 0 3 (some 3), .slice 1 2 0 0 3 (some 3), .slice 1 3 0 0 3 (some 3)], .slice 1 4 g4 off n cp]), .leN (off + n) zs.length, .leN n 140737488355000], .slice 1 5 (2 + padLaw 64 (n + 1) + 8) 0 (n + 1 + padLaw 64 (n + 1) + 8) none, [some ⟨.ints .i64 [7, 18, 3], 0, false, 3⟩, some ⟨.ints .i64 [17, 19, 10], 0, false, 3⟩, some ⟨.ints .i64 [2, 13, 22], 0, false, 3⟩, some ⟨.ints .i64 [6, 11, 25], 0, false, 3⟩, some ⟨.ints .u8 zs, g4, false, 5⟩, some ⟨.ints .u8 (fillLaw 64 (subLaw zs off n)), 2 + padLaw 64 (n + 1) + 8, true, 5⟩]⟩
theorem sm48_32c_ok {args : List AVal} {T : Tab} {zs : List Int} {g4 : Nat} {off : Nat} {n : Nat} {cp : Option Nat} (h : allP (sm48_32c args T zs g4 off n cp).cs) : Small prog glS 48 args T (sm48_32c args T zs g4 off n cp).val (sm48_32c args T zs g4 off n cp).tab := by
  obtain ⟨hT, hv, h1, h2, _⟩ := h
  simp only [Con.h] at hT hv h1 h2
  injection hv with hv
  subst hT hv
  have hl := subLaw_len h1
  have hl' : (List.take n (List.drop off zs)).length = n := hl
  have hq := pad64_le (n + 1)
  refine small_ofG (R := R48_32 zs g4 off n cp) (keep := [0, 1, 2, 3, 4, 6]) eS0_ok hmS (f := 48) (fn := f48) (by kernel_rfl) (by kernel_rfl) orc48_32_ok rfl (R48_32_ok ?_) (by rw [R48_32_val, addO_eq]; rfl) ?_
  · simp only [allP, Con.h, addO_eq, dropO_eq, List.nil_append, List.length_append, List.length_take, List.length_drop, zero_len, List.length_cons, List.length_nil, eq_self, true_and, and_true]
    omega
  · rw [R48_32_tab]
    have e : List.take n (subLaw zs off n) = subLaw zs off n := List.take_of_length_le (by omega)
    simp only [addO_eq, dropO_eq, List.nil_append]
    show ([some ⟨.ints .i64 [7, 18, 3], 0, false, 3⟩, some ⟨.ints .i64 [17, 19, 10], 0, false, 3⟩, some ⟨.ints .i64 [2, 13, 22], 0, false, 3⟩, some ⟨.ints .i64 [6, 11, 25], 0, false, 3⟩, some ⟨.ints .u8 zs, g4, false, 5⟩, some ⟨.ints .u8 (List.take n (subLaw zs off n) ++ [128] ++ zeroLaw (padLaw 64 (n + 1)) ++ zeroLaw 0 ++ beLaw 8 ((n : Int) * 8 % 18446744073709551616)), 2 + padLaw 64 (n + 1) + 8, true, 5⟩] : Tab) = _
    rw [show (List.take n (subLaw zs off n) ++ [128] ++ zeroLaw (padLaw 64 (n + 1)) ++ zeroLaw 0 ++ beLaw 8 ((n : Int) * 8 % 18446744073709551616)) = fillLaw 64 (subLaw zs off n) by unfold fillLaw; rw [e, hl]]
    rfl
noncomputable def sm48_32 : Summary := fun args T => sm48_32c args T (xsAt T 4) (gAt T 4) (offOf (vAt args 1)) (lenOf (vAt args 1)) (capOf (vAt args 1))
theorem sm48_32_ok : SmOk prog glS 48 sm48_32 := fun args T h => sm48_32c_ok h
noncomputable def S48_32 : Summary := callR sm48_32 []
theorem S48_32_ok : SumOk prog glS 48 S48_32 := callR_ok sm48_32_ok []
noncomputable def eW32 : Env := eS0 [(46, S46), (47, S47), (48, S48_32), (49, S49_32)]
theorem eW32_ok : EnvOk eW32 := envOf_ok tysS_ok (SumsOk.cons (fn := f46) S46_ok (by kernel_rfl) (by kernel_rfl) (by kernel_rfl) (SumsOk.cons (fn := f47) S47_ok (by kernel_rfl) (by kernel_rfl) (by kernel_rfl) (SumsOk.cons (fn := f48) S48_32_ok (by kernel_rfl) (by kernel_rfl) (by kernel_rfl) (SumsOk.cons (fn := f49) S49_32_ok (by kernel_rfl) (by kernel_rfl) (by kernel_rfl) trivial))))
noncomputable def sm48_64c (args : List AVal) (T : Tab) (zs : List Int) (g4 : Nat) (off : Nat) (n : Nat) (cp : Option Nat) : Res := ⟨[.tab T [some ⟨.ints .i64 [1, 8, 7], 0, false, 3⟩, some ⟨.ints .i64 [19, 61, 6], 0, false, 3⟩, some ⟨.ints .i64 [28, 34, 39], 0, false, 3⟩, some ⟨.ints .i64 [14, 18, 41], 0, false, 3⟩, some ⟨.ints .u8 zs, g4, false, 5⟩], .val (.tuple args) (.tuple [.agg [.int .i64 64, .int .i64 128, .int .i64 80, .slice 1 0 0 0 3 (some 3), .slice 1 1 0 0 3 (some 3), .slice 1 2 0 0 3 (some 3), .slice 1 3 0 0 3 (some 3)], .slice 1 4 g4 off n cp]), .leN (off + n) zs.length, .leN n 140737488355000], .slice 1 5 (2 + padLaw 128 (n + 1) + 16) 0 (n + 1 + padLaw 128 (n + 1) + 16) none, [some ⟨.ints .i64 [1, 8, 7], 0, false, 3⟩, some ⟨.ints .i64 [19, 61, 6], 0, false, 3⟩, some ⟨.ints .i64 [28, 34, 39], 0, false, 3⟩, some ⟨.ints .i64 [14, 18, 41], 0, false, 3⟩, some ⟨.ints .u8 zs, g4, false, 5⟩, some ⟨.ints .u8 (fillLaw 128 (subLaw zs off n)), 2 + padLaw 128 (n + 1) + 16, true, 5⟩]⟩
theorem sm48_64c_ok {args : List AVal} {T : Tab} {zs : List Int} {g4 : Nat} {off : Nat} {n : Nat} {cp : Option Nat} (h : allP (sm48_64c args T zs g4 off n cp).cs) : Small prog glS 48 args T (sm48_64c args T zs g4 off n cp).val (sm48_64c args T zs g4 off n cp).tab := by
  obtain ⟨hT, hv, h1, h2, _⟩ := h
  simp only [Con.h] at hT hv h1 h2
  injection hv with hv
  subst hT hv
  have hl := subLaw_len h1
  have hl' : (List.take n (List.drop off zs)).length = n := hl
  have hq := pad128_le (n + 1)
  refine small_ofG (R := R48_64 zs g4 off n cp) (keep := [0, 1, 2, 3, 4, 6]) eS0_ok hmS (f := 48) (fn := f48) (by kernel_rfl) (by kernel_rfl) orc48_64_ok rfl (R48_64_ok ?_) (by rw [R48_64_val, addO_eq]; rfl) ?_
  · simp only [allP, Con.h, addO_eq, dropO_eq, List.nil_append, List.length_append, List.length_take, List.length_drop, zero_len, List.length_cons, List.length_nil, eq_self, true_and, and_true]
    omega
  · rw [R48_64_tab]
    have e : List.take n (subLaw zs off n) = subLaw zs off n := List.take_of_length_le (by omega)
    simp only [addO_eq, dropO_eq, List.nil_append]
    show ([some ⟨.ints .i64 [1, 8, 7], 0, false, 3⟩, some ⟨.ints .i64 [19, 61, 6], 0, false, 3⟩, some ⟨.ints .i64 [28, 34, 39], 0, false, 3⟩, some ⟨.ints .i64 [14, 18, 41], 0, false, 3⟩, some ⟨.ints .u8 zs, g4, false, 5⟩, some ⟨.ints .u8 (List.take n (subLaw zs off n) ++ [128] ++ zeroLaw (padLaw 128 (n + 1)) ++ zeroLaw 8 ++ beLaw 8 ((n : Int) * 8 % 18446744073709551616)), 2 + padLaw 128 (n + 1) + 16, true, 5⟩] : Tab) = _
    rw [show (List.take n (subLaw zs off n) ++ [128] ++ zeroLaw (padLaw 128 (n + 1)) ++ zeroLaw 8 ++ beLaw 8 ((n : Int) * 8 % 18446744073709551616)) = fillLaw 128 (subLaw zs off n) by unfold fillLaw; rw [e, hl]]
    rfl
noncomputable def sm48_64 : Summary := fun args T => sm48_64c args T (xsAt T 4) (gAt T 4) (offOf (vAt args 1)) (lenOf (vAt args 1)) (capOf (vAt args 1))
theorem sm48_64_ok : SmOk prog glS 48 sm48_64 := fun args T h => sm48_64c_ok h
noncomputable def S48_64 : Summary := callR sm48_64 []
theorem S48_64_ok : SumOk prog glS 48 S48_64 := callR_ok sm48_64_ok []
noncomputable def eW64 : Env := eS0 [(46, S46), (47, S47), (48, S48_64), (49, S49_64)]
theorem eW64_ok : EnvOk eW64 := envOf_ok tysS_ok (SumsOk.cons (fn := f46) S46_ok (by kernel_rfl) (by kernel_rfl) (by kernel_rfl) (SumsOk.cons (fn := f47) S47_ok (by kernel_rfl) (by kernel_rfl) (by kernel_rfl) (SumsOk.cons (fn := f48) S48_64_ok (by kernel_rfl) (by kernel_rfl) (by kernel_rfl) (SumsOk.cons (fn := f49) S49_64_ok (by kernel_rfl) (by kernel_rfl) (by kernel_rfl) trivial))))
end Go.Abs

set_option linter.unusedVariables false
set_option linter.unusedSimpArgs false
set_option maxRecDepth 8000
set_option maxHeartbeats 4000000
namespace Go.Abs
open Go.Proofs Go.Proofs.Tryd
/-! ### the document's sum: pieces -/
noncomputable def A36_32 (i : Int) (m : Nat) (ck cs : Option Nat) (zs kk xs ss : List Int) (g4 g6 g7 gs : Nat) (o4 o6 o7 : Bool) : Out := trimG 8 [0,1,2,3,4,5,6,7,9] [2,5,7,9,10] (run eW32 77 ⟨8, []⟩ 400 (roundOf 2 f36) [(2, .var 5 0), (5, .slice 1 6 g6 0 80 ck), (7, .slice 1 8 gs 0 8 cs), (9, .slice 1 7 g7 0 m none), (10, .int .i64 i)] [some ⟨.ints .i64 [7, 18, 3], 0, false, 3⟩, some ⟨.ints .i64 [17, 19, 10], 0, false, 3⟩, some ⟨.ints .i64 [2, 13, 22], 0, false, 3⟩, some ⟨.ints .i64 [6, 11, 25], 0, false, 3⟩, some ⟨.ints .u8 zs, g4, o4, 5⟩, some ⟨.agg [.int .i64 32, .int .i64 64, .int .i64 64, .slice 1 0 0 0 3 (some 3), .slice 1 1 0 0 3 (some 3), .slice 1 2 0 0 3 (some 3), .slice 1 3 0 0 3 (some 3)], 0, true, 54⟩, some ⟨.ints .u64 kk, g6, o6, 56⟩, some ⟨.ints .u8 xs, g7, o7, 5⟩, some ⟨.ints .u64 ss, gs, true, 56⟩] [some true])
theorem A36_32_ok {i : Int} {m : Nat} {ck cs : Option Nat} {zs kk xs ss : List Int} {g4 g6 g7 gs : Nat} {o4 o6 o7 : Bool} (h : allP [.eqN g7 g7, .p (decide (i < (↑m : Int)) = true), .rng (-9223372036854775808) (i + 64) 9223372036854775807, .leI 0 i, .leI 0 (i + 64), .eqN g7 g7, .leN i.toNat (i + 64).toNat, .orN (i + 64).toNat m (0 + (i + 64).toNat) xs.length, .eqN gs gs, .eqN g6 g6, .eqN g7 g7,
 .eqN (subO (i + 64).toNat i.toNat) 64, .leN (i.toNat + 64) xs.length, .p (BsLaw xs), .p (isCubesLaw kk), .eqN ss.length 8, .p (WdsLaw 32 ss), .rng (-9223372036854775808) (i + 64) 9223372036854775807]) : Ok (A36_32 i m ck cs zs kk xs ss g4 g6 g7 gs o4 o6 o7) := Ok.dem (fl := bitsF 34 7516438776) (by kernel_rfl) (by kernel_rfl) (by kernel_rfl) h
theorem A36_32_ex {i : Int} {m : Nat} {ck cs : Option Nat} {zs kk xs ss : List Int} {g4 g6 g7 gs : Nat} {o4 o6 o7 : Bool} : (A36_32 i m ck cs zs kk xs ss g4 g6 g7 gs o4 o6 o7).ex = .normal := by kernel_rfl
theorem A36_32_fm {i : Int} {m : Nat} {ck cs : Option Nat} {zs kk xs ss : List Int} {g4 g6 g7 gs : Nat} {o4 o6 o7 : Bool} : (A36_32 i m ck cs zs kk xs ss g4 g6 g7 gs o4 o6 o7).fm = [(2, .var 5 0), (5, .slice 1 6 g6 0 80 ck), (7, .slice 1 8 0 0 8 (some 8)), (9, .slice 1 7 g7 0 m none), (10, .int .i64 (i + 64))] := by kernel_rfl
theorem A36_32_tab {i : Int} {m : Nat} {ck cs : Option Nat} {zs kk xs ss : List Int} {g4 g6 g7 gs : Nat} {o4 o6 o7 : Bool} : (A36_32 i m ck cs zs kk xs ss g4 g6 g7 gs o4 o6 o7).tab = [some ⟨.ints .i64 [7, 18, 3], 0, false, 3⟩, some ⟨.ints .i64 [17, 19, 10], 0, false, 3⟩, some ⟨.ints .i64 [2, 13, 22], 0, false, 3⟩, some ⟨.ints .i64 [6, 11, 25], 0, false, 3⟩, some ⟨.ints .u8 zs, g4, o4, 5⟩, some
 ⟨.agg [.int .i64 32, .int .i64 64, .int .i64 64, .slice 1 0 0 0 3 (some 3), .slice 1 1 0 0 3 (some 3), .slice 1 2 0 0 3 (some 3), .slice 1 3 0 0 3 (some 3)], 0, true, 54⟩, some ⟨.ints .u64 kk, g6, o6, 56⟩, some ⟨.ints .u8 xs, g7, o7, 5⟩, some ⟨.ints .u64 (bks32Law xs i.toNat ss), 0, true, 56⟩] := by kernel_rfl
noncomputable def B36_32 (i : Int) (m : Nat) (ck cs : Option Nat) (zs kk xs ss : List Int) (g4 g6 g7 gs : Nat) (o4 o6 o7 : Bool) : Out := trim 8 9 [2,7] (run eW32 77 ⟨8, []⟩ 400 (roundOf 2 f36) [(2, .var 5 0), (5, .slice 1 6 g6 0 80 ck), (7, .slice 1 8 gs 0 8 cs), (9, .slice 1 7 g7 0 m none), (10, .int .i64 i)] [some ⟨.ints .i64 [7, 18, 3], 0, false, 3⟩, some ⟨.ints .i64 [17, 19, 10], 0, false, 3⟩, some ⟨.ints .i64 [2, 13, 22], 0, false, 3⟩, some ⟨.ints .i64 [6, 11, 25], 0, false, 3⟩, some ⟨.ints .u8 zs, g4, o4, 5⟩, some ⟨.agg [.int .i64 32, .int .i64 64, .int .i64 64, .slice 1 0 0 0 3 (some 3), .slice 1 1 0 0 3 (some 3), .slice 1 2 0 0 3 (some 3), .slice 1 3 0 0 3 (some 3)], 0, true, 54⟩, some ⟨.ints .u64 kk, g6, o6, 56⟩, some ⟨.ints .u8 xs, g7, o7, 5⟩, some ⟨.ints .u64 ss, gs, true, 56⟩] [some false])
theorem B36_32_ok {i : Int} {m : Nat} {ck cs : Option Nat} {zs kk xs ss : List Int} {g4 g6 g7 gs : Nat} {o4 o6 o7 : Bool} (h : allP [.eqN g7 g7, .p (decide (i < (↑m : Int)) = false)]) : Ok (B36_32 i m ck cs zs kk xs ss g4 g6 g7 gs o4 o6 o7) := Ok.dem (fl := [false, false]) (by kernel_rfl) (by kernel_rfl) (by kernel_rfl) h
theorem B36_32_ex {i : Int} {m : Nat} {ck cs : Option Nat} {zs kk xs ss : List Int} {g4 g6 g7 gs : Nat} {o4 o6 o7 : Bool} : (B36_32 i m ck cs zs kk xs ss g4 g6 g7 gs o4 o6 o7).ex = .exit 2 := by kernel_rfl
theorem B36_32_fm {i : Int} {m : Nat} {ck cs : Option Nat} {zs kk xs ss : List Int} {g4 g6 g7 gs : Nat} {o4 o6 o7 : Bool} : (B36_32 i m ck cs zs kk xs ss g4 g6 g7 gs o4 o6 o7).fm = [(2, .var 5 0), (7, .slice 1 8 gs 0 8 cs)] := by kernel_rfl
theorem B36_32_tab {i : Int} {m : Nat} {ck cs : Option Nat} {zs kk xs ss : List Int} {g4 g6 g7 gs : Nat} {o4 o6 o7 : Bool} : (B36_32 i m ck cs zs kk xs ss g4 g6 g7 gs o4 o6 o7).tab = [some ⟨.ints .i64 [7, 18, 3], 0, false, 3⟩, some ⟨.ints .i64 [17, 19, 10], 0, false, 3⟩, some ⟨.ints .i64 [2, 13, 22], 0, false, 3⟩, some ⟨.ints .i64 [6, 11, 25], 0, false, 3⟩, some ⟨.ints .u8 zs, g4, o4, 5⟩, some
 ⟨.agg [.int .i64 32, .int .i64 64, .int .i64 64, .slice 1 0 0 0 3 (some 3), .slice 1 1 0 0 3 (some 3), .slice 1 2 0 0 3 (some 3), .slice 1 3 0 0 3 (some 3)], 0, true, 54⟩, some ⟨.ints .u64 kk, g6, o6, 56⟩, some ⟨.ints .u8 xs, g7, o7, 5⟩, some ⟨.ints .u64 ss, gs, true, 56⟩] := by kernel_rfl
noncomputable def C36_32 (i : Int) (m : Nat) (cs : Option Nat) (ys : List Int) (g9 : Nat) (zs kk xs ss : List Int) (g4 g6 g7 gs : Nat) (o4 o6 o7 : Bool) : Out := trim 10 10 [2,7,11,12] (run eW32 77 ⟨10, []⟩ 400 (.block 6 (.loop (roundOf 6 f36))) [(2, .var 5 0), (7, .slice 1 8 gs 0 8 cs), (11, .slice 1 9 g9 0 ys.length none), (12, .int .i64 i), (13, .int .i64 24)] [some ⟨.ints .i64 [7, 18, 3], 0, false, 3⟩, some ⟨.ints .i64 [17, 19, 10], 0, false, 3⟩, some ⟨.ints .i64 [2, 13, 22], 0, false, 3⟩, some ⟨.ints .i64 [6, 11, 25], 0, false, 3⟩, some ⟨.ints .u8 zs, g4, o4, 5⟩, some ⟨.agg [.int .i64 32, .int .i64 64, .int .i64 64, .slice 1 0 0 0 3 (some 3), .slice 1 1 0 0 3 (some 3), .slice 1 2 0 0 3 (some 3), .slice 1 3 0 0 3 (some 3)], 0, true, 54⟩, some ⟨.ints .u64 kk, g6, o6, 56⟩, some ⟨.ints .u8 xs, g7, o7, 5⟩, some ⟨.ints .u64 ss, gs, true, 56⟩, some ⟨.ints .u8 ys, g9, true, 5⟩] [])
theorem C36_32_ok {i : Int} {m : Nat} {cs : Option Nat} {ys : List Int} {g9 : Nat} {zs kk xs ss : List Int} {g4 g6 g7 gs : Nat} {o4 o6 o7 : Bool} (h : allP [.eqN gs gs, .leI 0 i, .leI (i + 1) 8, .eqN gs gs, .leN (i.toNat + 1) ss.length, .eqN g9 g9, .leN (0 + ys.length) ys.length, .leN (addO ys.length 1) 140737488355328, .eqN gs gs, .leI 0 i, .leI (i + 1) 8, .eqN gs gs, .leN (i.toNat + 1) ss.length,
 .eqN (g9 + 1) (g9 + 1), .leN (0 + addO ys.length 1) (List.take ys.length ys ++ [ss.getD i.toNat 0 / 16777216 % 256]).length, .leN (addO (addO ys.length 1) 1) 140737488355328, .eqN gs gs, .leI 0 i, .leI (i + 1) 8, .eqN gs gs, .leN (i.toNat + 1) ss.length, .eqN (g9 + 1 + 1) (g9 + 1 + 1), .leN (0 + addO (addO ys.length 1) 1) (List.take (addO ys.length 1) (List.take ys.length ys ++ [ss.getD i.toNat 0 /
 16777216 % 256]) ++ [ss.getD i.toNat 0 / 65536 % 256]).length, .leN (addO (addO (addO ys.length 1) 1) 1) 140737488355328, .eqN gs gs, .leI 0 i, .leI (i + 1) 8, .eqN gs gs, .leN (i.toNat + 1) ss.length, .eqN (g9 + 1 + 1 + 1) (g9 + 1 + 1 + 1), .leN (0 + addO (addO (addO ys.length 1) 1) 1) (List.take (addO (addO ys.length 1) 1) (List.take (addO ys.length 1) (List.take ys.length ys ++ [ss.getD i.toNat
 0 / 16777216 % 256]) ++ [ss.getD i.toNat 0 / 65536 % 256]) ++ [ss.getD i.toNat 0 / 256 % 256]).length, .leN (addO (addO (addO (addO ys.length 1) 1) 1) 1) 140737488355328]) : Ok (C36_32 i m cs ys g9 zs kk xs ss g4 g6 g7 gs o4 o6 o7) := Ok.dem (fl := bitsF 68 278937074641810875360) (by kernel_rfl) (by kernel_rfl) (by kernel_rfl) h
theorem C36_32_ex {i : Int} {m : Nat} {cs : Option Nat} {ys : List Int} {g9 : Nat} {zs kk xs ss : List Int} {g4 g6 g7 gs : Nat} {o4 o6 o7 : Bool} : (C36_32 i m cs ys g9 zs kk xs ss g4 g6 g7 gs o4 o6 o7).ex = .normal := by kernel_rfl
theorem C36_32_fm {i : Int} {m : Nat} {cs : Option Nat} {ys : List Int} {g9 : Nat} {zs kk xs ss : List Int} {g4 g6 g7 gs : Nat} {o4 o6 o7 : Bool} : (C36_32 i m cs ys g9 zs kk xs ss g4 g6 g7 gs o4 o6 o7).fm = [(2, .var 5 0), (7, .slice 1 8 gs 0 8 cs), (11, .slice 1 9 (g9 + 1 + 1 + 1 + 1) 0 (addO (addO (addO (addO ys.length 1) 1) 1) 1) none), (12, .int .i64 i)] := by kernel_rfl
theorem C36_32_tab {i : Int} {m : Nat} {cs : Option Nat} {ys : List Int} {g9 : Nat} {zs kk xs ss : List Int} {g4 g6 g7 gs : Nat} {o4 o6 o7 : Bool} : (C36_32 i m cs ys g9 zs kk xs ss g4 g6 g7 gs o4 o6 o7).tab = [some ⟨.ints .i64 [7, 18, 3], 0, false, 3⟩, some ⟨.ints .i64 [17, 19, 10], 0, false, 3⟩, some ⟨.ints .i64 [2, 13, 22], 0, false, 3⟩, some ⟨.ints .i64 [6, 11, 25], 0, false, 3⟩, some ⟨.ints
 .u8 zs, g4, o4, 5⟩, some ⟨.agg [.int .i64 32, .int .i64 64, .int .i64 64, .slice 1 0 0 0 3 (some 3), .slice 1 1 0 0 3 (some 3), .slice 1 2 0 0 3 (some 3), .slice 1 3 0 0 3 (some 3)], 0, true, 54⟩, some ⟨.ints .u64 kk, g6, o6, 56⟩, some ⟨.ints .u8 xs, g7, o7, 5⟩, some ⟨.ints .u64 ss, gs, true, 56⟩, some ⟨.ints .u8 (List.take (addO (addO (addO ys.length 1) 1) 1) (List.take (addO (addO ys.length 1) 1)
 (List.take (addO ys.length 1) (List.take ys.length ys ++ [ss.getD i.toNat 0 / 16777216 % 256]) ++ [ss.getD i.toNat 0 / 65536 % 256]) ++ [ss.getD i.toNat 0 / 256 % 256]) ++ [ss.getD i.toNat 0 / 1 % 256]), g9 + 1 + 1 + 1 + 1, true, 5⟩] := by kernel_rfl
noncomputable def A36_64 (i : Int) (m : Nat) (ck cs : Option Nat) (zs kk xs ss : List Int) (g4 g6 g7 gs : Nat) (o4 o6 o7 : Bool) : Out := trimG 8 [0,1,2,3,4,5,6,7,9] [2,5,7,9,10] (run eW64 77 ⟨8, []⟩ 400 (roundOf 2 f36) [(2, .var 5 0), (5, .slice 1 6 g6 0 80 ck), (7, .slice 1 8 gs 0 8 cs), (9, .slice 1 7 g7 0 m none), (10, .int .i64 i)] [some ⟨.ints .i64 [1, 8, 7], 0, false, 3⟩, some ⟨.ints .i64 [19, 61, 6], 0, false, 3⟩, some ⟨.ints .i64 [28, 34, 39], 0, false, 3⟩, some ⟨.ints .i64 [14, 18, 41], 0, false, 3⟩, some ⟨.ints .u8 zs, g4, o4, 5⟩, some ⟨.agg [.int .i64 64, .int .i64 128, .int .i64 80, .slice 1 0 0 0 3 (some 3), .slice 1 1 0 0 3 (some 3), .slice 1 2 0 0 3 (some 3), .slice 1 3 0 0 3 (some 3)], 0, true, 54⟩, some ⟨.ints .u64 kk, g6, o6, 56⟩, some ⟨.ints .u8 xs, g7, o7, 5⟩, some ⟨.ints .u64 ss, gs, true, 56⟩] [some true])
theorem A36_64_ok {i : Int} {m : Nat} {ck cs : Option Nat} {zs kk xs ss : List Int} {g4 g6 g7 gs : Nat} {o4 o6 o7 : Bool} (h : allP [.eqN g7 g7, .p (decide (i < (↑m : Int)) = true), .rng (-9223372036854775808) (i + 128) 9223372036854775807, .leI 0 i, .leI 0 (i + 128), .eqN g7 g7, .leN i.toNat (i + 128).toNat, .orN (i + 128).toNat m (0 + (i + 128).toNat) xs.length, .eqN gs gs, .eqN g6 g6, .eqN g7
 g7, .eqN (subO (i + 128).toNat i.toNat) 128, .leN (i.toNat + 128) xs.length, .p (BsLaw xs), .p (isCubesLaw kk), .eqN ss.length 8, .p (WdsLaw 64 ss), .rng (-9223372036854775808) (i + 128) 9223372036854775807]) : Ok (A36_64 i m ck cs zs kk xs ss g4 g6 g7 gs o4 o6 o7) := Ok.dem (fl := bitsF 34 7516438776) (by kernel_rfl) (by kernel_rfl) (by kernel_rfl) h
theorem A36_64_ex {i : Int} {m : Nat} {ck cs : Option Nat} {zs kk xs ss : List Int} {g4 g6 g7 gs : Nat} {o4 o6 o7 : Bool} : (A36_64 i m ck cs zs kk xs ss g4 g6 g7 gs o4 o6 o7).ex = .normal := by kernel_rfl
theorem A36_64_fm {i : Int} {m : Nat} {ck cs : Option Nat} {zs kk xs ss : List Int} {g4 g6 g7 gs : Nat} {o4 o6 o7 : Bool} : (A36_64 i m ck cs zs kk xs ss g4 g6 g7 gs o4 o6 o7).fm = [(2, .var 5 0), (5, .slice 1 6 g6 0 80 ck), (7, .slice 1 8 0 0 8 (some 8)), (9, .slice 1 7 g7 0 m none), (10, .int .i64 (i + 128))] := by kernel_rfl
theorem A36_64_tab {i : Int} {m : Nat} {ck cs : Option Nat} {zs kk xs ss : List Int} {g4 g6 g7 gs : Nat} {o4 o6 o7 : Bool} : (A36_64 i m ck cs zs kk xs ss g4 g6 g7 gs o4 o6 o7).tab = [some ⟨.ints .i64 [1, 8, 7], 0, false, 3⟩, some ⟨.ints .i64 [19, 61, 6], 0, false, 3⟩, some ⟨.ints .i64 [28, 34, 39], 0, false, 3⟩, some ⟨.ints .i64 [14, 18, 41], 0, false, 3⟩, some ⟨.ints .u8 zs, g4, o4, 5⟩, some
 ⟨.agg [.int .i64 64, .int .i64 128, .int .i64 80, .slice 1 0 0 0 3 (some 3), .slice 1 1 0 0 3 (some 3), .slice 1 2 0 0 3 (some 3), .slice 1 3 0 0 3 (some 3)], 0, true, 54⟩, some ⟨.ints .u64 kk, g6, o6, 56⟩, some ⟨.ints .u8 xs, g7, o7, 5⟩, some ⟨.ints .u64 (bks64Law xs i.toNat ss), 0, true, 56⟩] := by kernel_rfl
noncomputable def B36_64 (i : Int) (m : Nat) (ck cs : Option Nat) (zs kk xs ss : List Int) (g4 g6 g7 gs : Nat) (o4 o6 o7 : Bool) : Out := trim 8 9 [2,7] (run eW64 77 ⟨8, []⟩ 400 (roundOf 2 f36) [(2, .var 5 0), (5, .slice 1 6 g6 0 80 ck), (7, .slice 1 8 gs 0 8 cs), (9, .slice 1 7 g7 0 m none), (10, .int .i64 i)] [some ⟨.ints .i64 [1, 8, 7], 0, false, 3⟩, some ⟨.ints .i64 [19, 61, 6], 0, false, 3⟩, some ⟨.ints .i64 [28, 34, 39], 0, false, 3⟩, some ⟨.ints .i64 [14, 18, 41], 0, false, 3⟩, some ⟨.ints .u8 zs, g4, o4, 5⟩, some ⟨.agg [.int .i64 64, .int .i64 128, .int .i64 80, .slice 1 0 0 0 3 (some 3), .slice 1 1 0 0 3 (some 3), .slice 1 2 0 0 3 (some 3), .slice 1 3 0 0 3 (some 3)], 0, true, 54⟩, some ⟨.ints .u64 kk, g6, o6, 56⟩, some ⟨.ints .u8 xs, g7, o7, 5⟩, some ⟨.ints .u64 ss, gs, true, 56⟩] [some false])
theorem B36_64_ok {i : Int} {m : Nat} {ck cs : Option Nat} {zs kk xs ss : List Int} {g4 g6 g7 gs : Nat} {o4 o6 o7 : Bool} (h : allP [.eqN g7 g7, .p (decide (i < (↑m : Int)) = false)]) : Ok (B36_64 i m ck cs zs kk xs ss g4 g6 g7 gs o4 o6 o7) := Ok.dem (fl := [false, false]) (by kernel_rfl) (by kernel_rfl) (by kernel_rfl) h
theorem B36_64_ex {i : Int} {m : Nat} {ck cs : Option Nat} {zs kk xs ss : List Int} {g4 g6 g7 gs : Nat} {o4 o6 o7 : Bool} : (B36_64 i m ck cs zs kk xs ss g4 g6 g7 gs o4 o6 o7).ex = .exit 2 := by kernel_rfl
theorem B36_64_fm {i : Int} {m : Nat} {ck cs : Option Nat} {zs kk xs ss : List Int} {g4 g6 g7 gs : Nat} {o4 o6 o7 : Bool} : (B36_64 i m ck cs zs kk xs ss g4 g6 g7 gs o4 o6 o7).fm = [(2, .var 5 0), (7, .slice 1 8 gs 0 8 cs)] := by kernel_rfl
theorem B36_64_tab {i : Int} {m : Nat} {ck cs : Option Nat} {zs kk xs ss : List Int} {g4 g6 g7 gs : Nat} {o4 o6 o7 : Bool} : (B36_64 i m ck cs zs kk xs ss g4 g6 g7 gs o4 o6 o7).tab = [some ⟨.ints .i64 [1, 8, 7], 0, false, 3⟩, some ⟨.ints .i64 [19, 61, 6], 0, false, 3⟩, some ⟨.ints .i64 [28, 34, 39], 0, false, 3⟩, some ⟨.ints .i64 [14, 18, 41], 0, false, 3⟩, some ⟨.ints .u8 zs, g4, o4, 5⟩, some
 ⟨.agg [.int .i64 64, .int .i64 128, .int .i64 80, .slice 1 0 0 0 3 (some 3), .slice 1 1 0 0 3 (some 3), .slice 1 2 0 0 3 (some 3), .slice 1 3 0 0 3 (some 3)], 0, true, 54⟩, some ⟨.ints .u64 kk, g6, o6, 56⟩, some ⟨.ints .u8 xs, g7, o7, 5⟩, some ⟨.ints .u64 ss, gs, true, 56⟩] := by kernel_rfl
noncomputable def C36_64 (i : Int) (m : Nat) (cs : Option Nat) (ys : List Int) (g9 : Nat) (zs kk xs ss : List Int) (g4 g6 g7 gs : Nat) (o4 o6 o7 : Bool) : Out := trim 10 10 [2,7,11,12] (run eW64 77 ⟨10, []⟩ 400 (.block 6 (.loop (roundOf 6 f36))) [(2, .var 5 0), (7, .slice 1 8 gs 0 8 cs), (11, .slice 1 9 g9 0 ys.length none), (12, .int .i64 i), (13, .int .i64 56)] [some ⟨.ints .i64 [1, 8, 7], 0, false, 3⟩, some ⟨.ints .i64 [19, 61, 6], 0, false, 3⟩, some ⟨.ints .i64 [28, 34, 39], 0, false, 3⟩, some ⟨.ints .i64 [14, 18, 41], 0, false, 3⟩, some ⟨.ints .u8 zs, g4, o4, 5⟩, some ⟨.agg [.int .i64 64, .int .i64 128, .int .i64 80, .slice 1 0 0 0 3 (some 3), .slice 1 1 0 0 3 (some 3), .slice 1 2 0 0 3 (some 3), .slice 1 3 0 0 3 (some 3)], 0, true, 54⟩, some ⟨.ints .u64 kk, g6, o6, 56⟩, some ⟨.ints .u8 xs, g7, o7, 5⟩, some ⟨.ints .u64 ss, gs, true, 56⟩, some ⟨.ints .u8 ys, g9, true, 5⟩] [])
theorem C36_64_ok {i : Int} {m : Nat} {cs : Option Nat} {ys : List Int} {g9 : Nat} {zs kk xs ss : List Int} {g4 g6 g7 gs : Nat} {o4 o6 o7 : Bool} (h : allP [.eqN gs gs, .leI 0 i, .leI (i + 1) 8, .eqN gs gs, .leN (i.toNat + 1) ss.length, .eqN g9 g9, .leN (0 + ys.length) ys.length, .leN (addO ys.length 1) 140737488355328, .eqN gs gs, .leI 0 i, .leI (i + 1) 8, .eqN gs gs, .leN (i.toNat + 1) ss.length,
 .eqN (g9 + 1) (g9 + 1), .leN (0 + addO ys.length 1) (List.take ys.length ys ++ [ss.getD i.toNat 0 / 72057594037927936 % 256]).length, .leN (addO (addO ys.length 1) 1) 140737488355328, .eqN gs gs, .leI 0 i, .leI (i + 1) 8, .eqN gs gs, .leN (i.toNat + 1) ss.length, .eqN (g9 + 1 + 1) (g9 + 1 + 1), .leN (0 + addO (addO ys.length 1) 1) (List.take (addO ys.length 1) (List.take ys.length ys ++ [ss.getD
 i.toNat 0 / 72057594037927936 % 256]) ++ [ss.getD i.toNat 0 / 281474976710656 % 256]).length, .leN (addO (addO (addO ys.length 1) 1) 1) 140737488355328, .eqN gs gs, .leI 0 i, .leI (i + 1) 8, .eqN gs gs, .leN (i.toNat + 1) ss.length, .eqN (g9 + 1 + 1 + 1) (g9 + 1 + 1 + 1), .leN (0 + addO (addO (addO ys.length 1) 1) 1) (List.take (addO (addO ys.length 1) 1) (List.take (addO ys.length 1) (List.take
 ys.length ys ++ [ss.getD i.toNat 0 / 72057594037927936 % 256]) ++ [ss.getD i.toNat 0 / 281474976710656 % 256]) ++ [ss.getD i.toNat 0 / 1099511627776 % 256]).length, .leN (addO (addO (addO (addO ys.length 1) 1) 1) 1) 140737488355328, .eqN gs gs, .leI 0 i, .leI (i + 1) 8, .eqN gs gs, .leN (i.toNat + 1) ss.length, .eqN (g9 + 1 + 1 + 1 + 1) (g9 + 1 + 1 + 1 + 1), .leN (0 + addO (addO (addO (addO
 ys.length 1) 1) 1) 1) (List.take (addO (addO (addO ys.length 1) 1) 1) (List.take (addO (addO ys.length 1) 1) (List.take (addO ys.length 1) (List.take ys.length ys ++ [ss.getD i.toNat 0 / 72057594037927936 % 256]) ++ [ss.getD i.toNat 0 / 281474976710656 % 256]) ++ [ss.getD i.toNat 0 / 1099511627776 % 256]) ++ [ss.getD i.toNat 0 / 4294967296 % 256]).length, .leN (addO (addO (addO (addO (addO
 ys.length 1) 1) 1) 1) 1) 140737488355328, .eqN gs gs, .leI 0 i, .leI (i + 1) 8, .eqN gs gs, .leN (i.toNat + 1) ss.length, .eqN (g9 + 1 + 1 + 1 + 1 + 1) (g9 + 1 + 1 + 1 + 1 + 1), .leN (0 + addO (addO (addO (addO (addO ys.length 1) 1) 1) 1) 1) (List.take (addO (addO (addO (addO ys.length 1) 1) 1) 1) (List.take (addO (addO (addO ys.length 1) 1) 1) (List.take (addO (addO ys.length 1) 1) (List.take
 (addO ys.length 1) (List.take ys.length ys ++ [ss.getD i.toNat 0 / 72057594037927936 % 256]) ++ [ss.getD i.toNat 0 / 281474976710656 % 256]) ++ [ss.getD i.toNat 0 / 1099511627776 % 256]) ++ [ss.getD i.toNat 0 / 4294967296 % 256]) ++ [ss.getD i.toNat 0 / 16777216 % 256]).length, .leN (addO (addO (addO (addO (addO (addO ys.length 1) 1) 1) 1) 1) 1) 140737488355328, .eqN gs gs, .leI 0 i, .leI (i + 1)
 8, .eqN gs gs, .leN (i.toNat + 1) ss.length, .eqN (g9 + 1 + 1 + 1 + 1 + 1 + 1) (g9 + 1 + 1 + 1 + 1 + 1 + 1), .leN (0 + addO (addO (addO (addO (addO (addO ys.length 1) 1) 1) 1) 1) 1) (List.take (addO (addO (addO (addO (addO ys.length 1) 1) 1) 1) 1) (List.take (addO (addO (addO (addO ys.length 1) 1) 1) 1) (List.take (addO (addO (addO ys.length 1) 1) 1) (List.take (addO (addO ys.length 1) 1)
 (List.take (addO ys.length 1) (List.take ys.length ys ++ [ss.getD i.toNat 0 / 72057594037927936 % 256]) ++ [ss.getD i.toNat 0 / 281474976710656 % 256]) ++ [ss.getD i.toNat 0 / 1099511627776 % 256]) ++ [ss.getD i.toNat 0 / 4294967296 % 256]) ++ [ss.getD i.toNat 0 / 16777216 % 256]) ++ [ss.getD i.toNat 0 / 65536 % 256]).length, .leN (addO (addO (addO (addO (addO (addO (addO ys.length 1) 1) 1) 1) 1)
 1) 1) 140737488355328, .eqN gs gs, .leI 0 i, .leI (i + 1) 8, .eqN gs gs, .leN (i.toNat + 1) ss.length, .eqN (g9 + 1 + 1 + 1 + 1 + 1 + 1 + 1) (g9 + 1 + 1 + 1 + 1 + 1 + 1 + 1), .leN (0 + addO (addO (addO (addO (addO (addO (addO ys.length 1) 1) 1) 1) 1) 1) 1) (List.take (addO (addO (addO (addO (addO (addO ys.length 1) 1) 1) 1) 1) 1) (List.take (addO (addO (addO (addO (addO ys.length 1) 1) 1) 1) 1)
 (List.take (addO (addO (addO (addO ys.length 1) 1) 1) 1) (List.take (addO (addO (addO ys.length 1) 1) 1) (List.take (addO (addO ys.length 1) 1) (List.take (addO ys.length 1) (List.take ys.length ys ++ [ss.getD i.toNat 0 / 72057594037927936 % 256]) ++ [ss.getD i.toNat 0 / 281474976710656 % 256]) ++ [ss.getD i.toNat 0 / 1099511627776 % 256]) ++ [ss.getD i.toNat 0 / 4294967296 % 256]) ++ [ss.getD
 i.toNat 0 / 16777216 % 256]) ++ [ss.getD i.toNat 0 / 65536 % 256]) ++ [ss.getD i.toNat 0 / 256 % 256]).length, .leN (addO (addO (addO (addO (addO (addO (addO (addO ys.length 1) 1) 1) 1) 1) 1) 1) 1) 140737488355328]) : Ok (C36_64 i m cs ys g9 zs kk xs ss g4 g6 g7 gs o4 o6 o7) := Ok.dem (fl := bitsF 136 82327693257387257842013837379570812183520) (by kernel_rfl) (by kernel_rfl) (by kernel_rfl) h
theorem C36_64_ex {i : Int} {m : Nat} {cs : Option Nat} {ys : List Int} {g9 : Nat} {zs kk xs ss : List Int} {g4 g6 g7 gs : Nat} {o4 o6 o7 : Bool} : (C36_64 i m cs ys g9 zs kk xs ss g4 g6 g7 gs o4 o6 o7).ex = .normal := by kernel_rfl
theorem C36_64_fm {i : Int} {m : Nat} {cs : Option Nat} {ys : List Int} {g9 : Nat} {zs kk xs ss : List Int} {g4 g6 g7 gs : Nat} {o4 o6 o7 : Bool} : (C36_64 i m cs ys g9 zs kk xs ss g4 g6 g7 gs o4 o6 o7).fm = [(2, .var 5 0), (7, .slice 1 8 gs 0 8 cs), (11, .slice 1 9 (g9 + 1 + 1 + 1 + 1 + 1 + 1 + 1 + 1) 0 (addO (addO (addO (addO (addO (addO (addO (addO ys.length 1) 1) 1) 1) 1) 1) 1) 1) none), (12,
 .int .i64 i)] := by kernel_rfl
theorem C36_64_tab {i : Int} {m : Nat} {cs : Option Nat} {ys : List Int} {g9 : Nat} {zs kk xs ss : List Int} {g4 g6 g7 gs : Nat} {o4 o6 o7 : Bool} : (C36_64 i m cs ys g9 zs kk xs ss g4 g6 g7 gs o4 o6 o7).tab = [some ⟨.ints .i64 [1, 8, 7], 0, false, 3⟩, some ⟨.ints .i64 [19, 61, 6], 0, false, 3⟩, some ⟨.ints .i64 [28, 34, 39], 0, false, 3⟩, some ⟨.ints .i64 [14, 18, 41], 0, false, 3⟩, some ⟨.ints
 .u8 zs, g4, o4, 5⟩, some ⟨.agg [.int .i64 64, .int .i64 128, .int .i64 80, .slice 1 0 0 0 3 (some 3), .slice 1 1 0 0 3 (some 3), .slice 1 2 0 0 3 (some 3), .slice 1 3 0 0 3 (some 3)], 0, true, 54⟩, some ⟨.ints .u64 kk, g6, o6, 56⟩, some ⟨.ints .u8 xs, g7, o7, 5⟩, some ⟨.ints .u64 ss, gs, true, 56⟩, some ⟨.ints .u8 (List.take (addO (addO (addO (addO (addO (addO (addO ys.length 1) 1) 1) 1) 1) 1) 1)
 (List.take (addO (addO (addO (addO (addO (addO ys.length 1) 1) 1) 1) 1) 1) (List.take (addO (addO (addO (addO (addO ys.length 1) 1) 1) 1) 1) (List.take (addO (addO (addO (addO ys.length 1) 1) 1) 1) (List.take (addO (addO (addO ys.length 1) 1) 1) (List.take (addO (addO ys.length 1) 1) (List.take (addO ys.length 1) (List.take ys.length ys ++ [ss.getD i.toNat 0 / 72057594037927936 % 256]) ++ [ss.getD
 i.toNat 0 / 281474976710656 % 256]) ++ [ss.getD i.toNat 0 / 1099511627776 % 256]) ++ [ss.getD i.toNat 0 / 4294967296 % 256]) ++ [ss.getD i.toNat 0 / 16777216 % 256]) ++ [ss.getD i.toNat 0 / 65536 % 256]) ++ [ss.getD i.toNat 0 / 256 % 256]) ++ [ss.getD i.toNat 0 / 1 % 256]), g9 + 1 + 1 + 1 + 1 + 1 + 1 + 1 + 1, true, 5⟩] := by kernel_rfl
end Go.Abs

set_option linter.unusedVariables false
set_option linter.unusedSimpArgs false
set_option maxRecDepth 8000
set_option maxHeartbeats 4000000
namespace Go.Abs
open Go.Proofs Go.Proofs.Tryd
/-! ### the document's sum: loops -/
def bysLaw (n : Nat) (ss : List Int) : Nat → List Int
  | 0 => []
  | i + 1 => bysLaw n ss i ++ beLaw n (ss.getD i 0)
theorem bys_len (n : Nat) (ss : List Int) : ∀ i, (bysLaw n ss i).length = n * i
  | 0 => rfl
  | i + 1 => by rw [bysLaw, List.length_append, bys_len n ss i, beLaw_len, Nat.mul_succ]
theorem fill64_mod (xs : List Int) : (fillLaw 64 xs).length % 64 = 0 := by
  have := fill_len 64 xs
  have := pad64_at (xs.length + 1)
  omega
theorem fill128_mod (xs : List Int) : (fillLaw 128 xs).length % 128 = 0 := by
  have := fill_len 128 xs
  have := pad128_at (xs.length + 1)
  omega
/-! width 32 -/
def stl32Law (xs ss : List Int) : List Int := stsLaw32 xs ss (xs.length / 64)
def FA36_32 (g6 g7 : Nat) (ck : Option Nat) (m : Nat) (gs : Nat) (cs : Option Nat) (i : Nat) : Fm := [(2, .var 5 0), (5, .slice 1 6 g6 0 80 ck), (7, .slice 1 8 gs 0 8 cs), (9, .slice 1 7 g7 0 m none), (10, .int .i64 i)]
def TA36_32 (zs kk xs : List Int) (g4 g6 g7 : Nat) (o4 o6 o7 : Bool) (ss : List Int) (gs : Nat) : Tab := [some ⟨.ints .i64 [7, 18, 3], 0, false, 3⟩, some ⟨.ints .i64 [17, 19, 10], 0, false, 3⟩, some ⟨.ints .i64 [2, 13, 22], 0, false, 3⟩, some ⟨.ints .i64 [6, 11, 25], 0, false, 3⟩, some ⟨.ints .u8 zs, g4, o4, 5⟩, some ⟨.agg [.int .i64 32, .int .i64 64, .int .i64 64, .slice 1 0 0 0 3 (some 3), .slice 1 1 0 0 3 (some 3), .slice 1 2 0 0 3 (some 3), .slice 1 3 0 0 3 (some 3)], 0, true, 54⟩, some ⟨.ints .u64 kk, g6, o6, 56⟩, some ⟨.ints .u8 xs, g7, o7, 5⟩, some ⟨.ints .u64 ss, gs, true, 56⟩]
theorem loopA36_32 {zs kk xs ss : List Int} {g4 g6 g7 : Nat} {o4 o6 o7 : Bool} {ck cs : Option Nat} {gs q : Nat} (hk : isCubesLaw kk) (hl : xs.length = 64 * q) (hq : 0 < q) (hm : xs.length ≤ 140737488355328) (hb : BsLaw xs) (hs : ss.length = 8) (hw : Wds 32 ss) :
    To eW32 77 8 (.block 2 (.loop (roundOf 2 f36))) (FA36_32 g6 g7 ck xs.length gs cs 0) (TA36_32 zs kk xs g4 g6 g7 o4 o6 o7 ss gs) .normal [(2, .var 5 0), (7, .slice 1 8 0 0 8 (some 8))] (TA36_32 zs kk xs g4 g6 g7 o4 o6 o7 (stsLaw32 xs ss q) 0) := by
  obtain ⟨q, rfl⟩ : ∃ p, q = p + 1 := ⟨q - 1, by omega⟩
  refine To.rounds (fun i => FA36_32 g6 g7 ck xs.length (gxs gs i) (cxs cs i) (64 * i)) (fun i => TA36_32 zs kk xs g4 g6 g7 o4 o6 o7 (stsLaw32 xs ss i) (gxs gs i)) (q + 1) (fun i hi => ?_)
    (To.of (o := B36_32 (64 * (q + 1) : Nat) xs.length ck (some 8) zs kk xs (stsLaw32 xs ss (q + 1)) g4 g6 g7 0 o4 o6 o7) eW32_ok hmS (Nat.le_refl 8) OrcOk.nil rfl (B36_32_ok (by simp only [allP, Con.h, decide_eq_false_iff_not, eq_self, true_and, and_true]; omega)) B36_32_ex B36_32_fm B36_32_tab)
  have e1 := stsLaw32_len (xs := xs) hs i
  have e2 : WdsLaw 32 (stsLaw32 xs ss i) := stsLaw32_wds (xs := xs) hw i
  show To _ _ _ _ _ _ _ _ (TA36_32 zs kk xs g4 g6 g7 o4 o6 o7 (bks32Law xs (64 * i) (stsLaw32 xs ss i)) 0)
  refine To.ofG (o := A36_32 (64 * i : Nat) xs.length ck (cxs cs i) zs kk xs (stsLaw32 xs ss i) g4 g6 g7 (gxs gs i) o4 o6 o7) eW32_ok hmS (Nat.le_refl 8) OrcOk.nil rfl (A36_32_ok ?_) A36_32_ex ?_ ?_
  · simp only [allP, Con.h, subO_eq, e1, e2, hb, hk, Int.toNat_natCast, show (((64 * i : Nat) : Int) + 64).toNat = 64 * i + 64 by omega, decide_eq_true_eq, eq_self, true_and, and_true]
    omega
  · rw [A36_32_fm, show ((64 * i : Nat) : Int) + 64 = ((64 * (i + 1) : Nat) : Int) by omega]
    rfl
  · rw [A36_32_tab, Int.toNat_natCast]
    rfl
noncomputable def gA36_32c (vs : List AVal) (T : Tab) (zs : List Int) (kk : List Int) (xs : List Int) (ss : List Int) (g4 : Nat) (g6 : Nat) (g7 : Nat) (gs : Nat) (o4 : Bool) (o6 : Bool) (o7 : Bool) (ck : Option Nat) (cs : Option Nat) (m : Nat) : Out := ⟨[.tab T [some ⟨.ints .i64 [7, 18, 3], 0, false, 3⟩, some ⟨.ints .i64 [17, 19, 10], 0, false, 3⟩, some ⟨.ints .i64 [2, 13, 22], 0, false, 3⟩, some ⟨.ints .i64 [6, 11, 25], 0, false, 3⟩, some ⟨.ints .u8 zs, g4, o4, 5⟩, some ⟨.agg [.int .i64 32, .int .i64 64, .int .i64 64, .slice 1 0 0 0 3 (some 3), .slice 1 1 0 0 3 (some 3), .slice 1 2 0 0 3 (some 3), .slice 1 3 0 0 3 (some 3)], 0, true, 54⟩, some ⟨.ints .u64 kk, g6, o6, 56⟩, some ⟨.ints .u8 xs, g7, o7, 5⟩, some ⟨.ints .u64 ss, gs, true, 56⟩], .val (.tuple vs) (.tuple [.var 5 0, .slice 1 6 g6 0 80 ck, .slice 1 8 gs 0 8 cs, .slice 1 7 g7 0 m none, .int .i64 0]), .eqN m xs.length, .p (isCubesLaw kk), .eqN (xs.length % 64) 0, .leN 1 xs.length, .leN xs.length 140737488355328, .p (BsLaw xs), .eqN ss.length 8, .p (WdsLaw 32 ss)], .normal, [(2, .var 5 0), (7, .slice 1 8 0 0 8 (some 8))], [some ⟨.ints .i64 [7, 18, 3], 0, false, 3⟩, some ⟨.ints .i64 [17, 19, 10], 0, false, 3⟩, some ⟨.ints .i64 [2, 13, 22], 0, false, 3⟩, some ⟨.ints .i64 [6, 11, 25], 0, false, 3⟩, some ⟨.ints .u8 zs, g4, o4, 5⟩, some ⟨.agg [.int .i64 32, .int .i64 64, .int .i64 64, .slice 1 0 0 0 3 (some 3), .slice 1 1 0 0 3 (some 3), .slice 1 2 0 0 3 (some 3), .slice 1 3 0 0 3 (some 3)], 0, true, 54⟩, some ⟨.ints .u64 kk, g6, o6, 56⟩, some ⟨.ints .u8 xs, g7, o7, 5⟩, some ⟨.ints .u64 (stl32Law xs ss), 0, true, 56⟩], []⟩
theorem gA36_32c_ok {vs : List AVal} {T : Tab} {zs : List Int} {kk : List Int} {xs : List Int} {ss : List Int} {g4 : Nat} {g6 : Nat} {g7 : Nat} {gs : Nat} {o4 : Bool} {o6 : Bool} {o7 : Bool} {ck : Option Nat} {cs : Option Nat} {m : Nat} (h : Ok (gA36_32c vs T zs kk xs ss g4 g6 g7 gs o4 o6 o7 ck cs m)) : To eW32 77 5 (.block 2 (.loop (roundOf 2 f36))) (zipF [2,5,7,9,10] vs) T (gA36_32c vs T zs kk xs ss g4 g6 g7 gs o4 o6 o7 ck cs m).ex (gA36_32c vs T zs kk xs ss g4 g6 g7 gs o4 o6 o7 ck cs m).fm (gA36_32c vs T zs kk xs ss g4 g6 g7 gs o4 o6 o7 ck cs m).tab := by
  obtain ⟨hT, hv, h1, h2, h3, h4, h5, h6, h7, h8, _⟩ := h.h
  simp only [Con.h] at hT hv h1 h2 h3 h4 h5 h6 h7 h8
  injection hv with hv
  subst hT hv
  subst h1
  exact To.base (by decide) (loopA36_32 (q := xs.length / 64) h2 (by omega) (by omega) h5 h6 h7 h8)
noncomputable def gA36_32 : List AVal → Tab → Out := fun vs T => gA36_32c vs T (xsAt T 4) (xsAt T 6) (xsAt T 7) (xsAt T 8) (gAt T 4) (gAt T 6) (gAt T 7) (gAt T 8) (owAt T 4) (owAt T 6) (owAt T 7) (capOf (vAt vs 1)) (capOf (vAt vs 2)) (lenOf (vAt vs 3))
theorem gA36_32_ok : BlkOk eW32 f36 2 (.loop (roundOf 2 f36)) (blkGC 5 [0,1,2,3,4,5,6,17,9] [2,5,7,9,10] gA36_32) := blkGC_ok fun vs T h => gA36_32c_ok h
noncomputable def gC36_32c (vs : List AVal) (T : Tab) (zs : List Int) (kk : List Int) (xs : List Int) (ss : List Int) (g4 : Nat) (g6 : Nat) (g7 : Nat) (gs : Nat) (o4 : Bool) (o6 : Bool) (o7 : Bool) (cs : Option Nat) (ys : List Int) (g9 : Nat) (m : Nat) (i : Int) : Out := ⟨[.tab T [some ⟨.ints .i64 [7, 18, 3], 0, false, 3⟩, some ⟨.ints .i64 [17, 19, 10], 0, false, 3⟩, some ⟨.ints .i64 [2, 13, 22], 0, false, 3⟩, some ⟨.ints .i64 [6, 11, 25], 0, false, 3⟩, some ⟨.ints .u8 zs, g4, o4, 5⟩, some ⟨.agg [.int .i64 32, .int .i64 64, .int .i64 64, .slice 1 0 0 0 3 (some 3), .slice 1 1 0 0 3 (some 3), .slice 1 2 0 0 3 (some 3), .slice 1 3 0 0 3 (some 3)], 0, true, 54⟩, some ⟨.ints .u64 kk, g6, o6, 56⟩, some ⟨.ints .u8 xs, g7, o7, 5⟩, some ⟨.ints .u64 ss, gs, true, 56⟩, some ⟨.ints .u8 ys, g9, true, 5⟩], .val (.tuple vs) (.tuple [.var 5 0, .slice 1 8 gs 0 8 cs, .slice 1 9 g9 0 m none, .int .i64 i, .int .i64 24]), .eqN m ys.length, .rng 0 i 7, .eqN ss.length 8, .leN (ys.length + 4) 140737488355328], .normal, [(2, .var 5 0), (7, .slice 1 8 gs 0 8 cs), (11, .slice 1 9 (g9 + 4) 0 (m + 4) none), (12, .int .i64 i)], [some ⟨.ints .i64 [7, 18, 3], 0, false, 3⟩, some ⟨.ints .i64 [17, 19, 10], 0, false, 3⟩, some ⟨.ints .i64 [2, 13, 22], 0, false, 3⟩, some ⟨.ints .i64 [6, 11, 25], 0, false, 3⟩, some ⟨.ints .u8 zs, g4, o4, 5⟩, some ⟨.agg [.int .i64 32, .int .i64 64, .int .i64 64, .slice 1 0 0 0 3 (some 3), .slice 1 1 0 0 3 (some 3), .slice 1 2 0 0 3 (some 3), .slice 1 3 0 0 3 (some 3)], 0, true, 54⟩, some ⟨.ints .u64 kk, g6, o6, 56⟩, some ⟨.ints .u8 xs, g7, o7, 5⟩, some ⟨.ints .u64 ss, gs, true, 56⟩, some ⟨.ints .u8 (ys ++ beLaw 4 (ss.getD i.toNat 0)), g9 + 4, true, 5⟩], []⟩
theorem gC36_32c_ok {vs : List AVal} {T : Tab} {zs : List Int} {kk : List Int} {xs : List Int} {ss : List Int} {g4 : Nat} {g6 : Nat} {g7 : Nat} {gs : Nat} {o4 : Bool} {o6 : Bool} {o7 : Bool} {cs : Option Nat} {ys : List Int} {g9 : Nat} {m : Nat} {i : Int} (h : Ok (gC36_32c vs T zs kk xs ss g4 g6 g7 gs o4 o6 o7 cs ys g9 m i)) : To eW32 77 10 (.block 6 (.loop (roundOf 6 f36))) (zipF [2,7,11,12,13] vs) T (gC36_32c vs T zs kk xs ss g4 g6 g7 gs o4 o6 o7 cs ys g9 m i).ex (gC36_32c vs T zs kk xs ss g4 g6 g7 gs o4 o6 o7 cs ys g9 m i).fm (gC36_32c vs T zs kk xs ss g4 g6 g7 gs o4 o6 o7 cs ys g9 m i).tab := by
  obtain ⟨hT, hv, h1, h2, h3, h4, _⟩ := h.h
  simp only [Con.h] at hT hv h1 h2 h3 h4
  injection hv with hv
  subst hT hv
  subst h1
  refine To.of (o := C36_32 i 0 cs ys g9 zs kk xs ss g4 g6 g7 gs o4 o6 o7) eW32_ok hmS (Nat.le_refl 10) OrcOk.nil rfl (C36_32_ok ?_) C36_32_ex (by rw [C36_32_fm]; simp only [addO_eq]; rfl) ?_
  · simp only [allP, Con.h, addO_eq, List.take_length, take_snoc, List.length_append, List.length_cons, List.length_nil, Nat.zero_add, Nat.le_refl, eq_self, true_and, and_true]
    omega
  · rw [C36_32_tab]
    simp only [addO_eq, List.take_length, take_snoc, List.length_append, List.length_cons, List.length_nil, Nat.zero_add]
    show _ = ([some ⟨.ints .i64 [7, 18, 3], 0, false, 3⟩, some ⟨.ints .i64 [17, 19, 10], 0, false, 3⟩, some ⟨.ints .i64 [2, 13, 22], 0, false, 3⟩, some ⟨.ints .i64 [6, 11, 25], 0, false, 3⟩, some ⟨.ints .u8 zs, g4, o4, 5⟩, some ⟨.agg [.int .i64 32, .int .i64 64, .int .i64 64, .slice 1 0 0 0 3 (some 3), .slice 1 1 0 0 3 (some 3), .slice 1 2 0 0 3 (some 3), .slice 1 3 0 0 3 (some 3)], 0, true, 54⟩, some ⟨.ints .u64 kk, g6, o6, 56⟩, some ⟨.ints .u8 xs, g7, o7, 5⟩, some ⟨.ints .u64 ss, gs, true, 56⟩, some ⟨.ints .u8 (ys ++ beLaw 4 (ss.getD i.toNat 0)), g9 + 4, true, 5⟩] : Tab)
    simp only [List.append_assoc]
    rfl
noncomputable def gC36_32 : List AVal → Tab → Out := fun vs T => gC36_32c vs T (xsAt T 4) (xsAt T 6) (xsAt T 7) (xsAt T 8) (gAt T 4) (gAt T 6) (gAt T 7) (gAt T 8) (owAt T 4) (owAt T 6) (owAt T 7) (capOf (vAt vs 1)) (xsAt T 9) (gAt T 9) (lenOf (vAt vs 2)) (iOf (vAt vs 3))
theorem gC36_32_ok : BlkOk eW32 f36 6 (.loop (roundOf 6 f36)) (blkS 10 [2,7,11,12,13] gC36_32) := blkS_ok fun vs T h => gC36_32c_ok h
noncomputable def O36_32 (i : Int) (m : Nat) (cs : Option Nat) (ys : List Int) (g9 : Nat) (zs kk xs ss : List Int) (g4 g6 g7 gs : Nat) (o4 o6 o7 : Bool) : Out := trim 9 10 [2,7,11,12] (run eW32 77 ⟨10, [(6, blkS 10 [2,7,11,12,13] gC36_32)]⟩ 400 (roundOf 4 f36) [(2, .var 5 0), (7, .slice 1 8 gs 0 8 cs), (11, .slice 1 9 g9 0 m none), (12, .int .i64 i)] [some ⟨.ints .i64 [7, 18, 3], 0, false, 3⟩, some ⟨.ints .i64 [17, 19, 10], 0, false, 3⟩, some ⟨.ints .i64 [2, 13, 22], 0, false, 3⟩, some ⟨.ints .i64 [6, 11, 25], 0, false, 3⟩, some ⟨.ints .u8 zs, g4, o4, 5⟩, some ⟨.agg [.int .i64 32, .int .i64 64, .int .i64 64, .slice 1 0 0 0 3 (some 3), .slice 1 1 0 0 3 (some 3), .slice 1 2 0 0 3 (some 3), .slice 1 3 0 0 3 (some 3)], 0, true, 54⟩, some ⟨.ints .u64 kk, g6, o6, 56⟩, some ⟨.ints .u8 xs, g7, o7, 5⟩, some ⟨.ints .u64 ss, gs, true, 56⟩, some ⟨.ints .u8 ys, g9, true, 5⟩] [some true])
theorem O36_32_ok {i : Int} {m : Nat} {cs : Option Nat} {ys : List Int} {g9 : Nat} {zs kk xs ss : List Int} {g4 g6 g7 gs : Nat} {o4 o6 o7 : Bool} (h : allP [.p (decide (i < 8) = true), .eqN m ys.length, .rng 0 i 7, .eqN ss.length 8, .leN (ys.length + 4) 140737488355328, .rng (-9223372036854775808) (i + 1) 9223372036854775807]) : Ok (O36_32 i m cs ys g9 zs kk xs ss g4 g6 g7 gs o4 o6 o7) := Ok.dem
 (fl := bitsF 12 30) (by kernel_rfl) (by kernel_rfl) (by kernel_rfl) h
theorem O36_32_ex {i : Int} {m : Nat} {cs : Option Nat} {ys : List Int} {g9 : Nat} {zs kk xs ss : List Int} {g4 g6 g7 gs : Nat} {o4 o6 o7 : Bool} : (O36_32 i m cs ys g9 zs kk xs ss g4 g6 g7 gs o4 o6 o7).ex = .normal := by kernel_rfl
theorem O36_32_fm {i : Int} {m : Nat} {cs : Option Nat} {ys : List Int} {g9 : Nat} {zs kk xs ss : List Int} {g4 g6 g7 gs : Nat} {o4 o6 o7 : Bool} : (O36_32 i m cs ys g9 zs kk xs ss g4 g6 g7 gs o4 o6 o7).fm = [(2, .var 5 0), (7, .slice 1 8 gs 0 8 cs), (11, .slice 1 9 (g9 + 4) 0 (m + 4) none), (12, .int .i64 (i + 1))] := by kernel_rfl
theorem O36_32_tab {i : Int} {m : Nat} {cs : Option Nat} {ys : List Int} {g9 : Nat} {zs kk xs ss : List Int} {g4 g6 g7 gs : Nat} {o4 o6 o7 : Bool} : (O36_32 i m cs ys g9 zs kk xs ss g4 g6 g7 gs o4 o6 o7).tab = [some ⟨.ints .i64 [7, 18, 3], 0, false, 3⟩, some ⟨.ints .i64 [17, 19, 10], 0, false, 3⟩, some ⟨.ints .i64 [2, 13, 22], 0, false, 3⟩, some ⟨.ints .i64 [6, 11, 25], 0, false, 3⟩, some ⟨.ints
 .u8 zs, g4, o4, 5⟩, some ⟨.agg [.int .i64 32, .int .i64 64, .int .i64 64, .slice 1 0 0 0 3 (some 3), .slice 1 1 0 0 3 (some 3), .slice 1 2 0 0 3 (some 3), .slice 1 3 0 0 3 (some 3)], 0, true, 54⟩, some ⟨.ints .u64 kk, g6, o6, 56⟩, some ⟨.ints .u8 xs, g7, o7, 5⟩, some ⟨.ints .u64 ss, gs, true, 56⟩, some ⟨.ints .u8 (ys ++ beLaw 4 (ss.getD i.toNat 0)), g9 + 4, true, 5⟩] := by kernel_rfl
noncomputable def P36_32 (i : Int) (m : Nat) (cs : Option Nat) (ys : List Int) (g9 : Nat) (zs kk xs ss : List Int) (g4 g6 g7 gs : Nat) (o4 o6 o7 : Bool) : Out := trim 9 10 [11] (run eW32 77 ⟨10, [(6, blkS 10 [2,7,11,12,13] gC36_32)]⟩ 400 (roundOf 4 f36) [(2, .var 5 0), (7, .slice 1 8 gs 0 8 cs), (11, .slice 1 9 g9 0 m none), (12, .int .i64 i)] [some ⟨.ints .i64 [7, 18, 3], 0, false, 3⟩, some ⟨.ints .i64 [17, 19, 10], 0, false, 3⟩, some ⟨.ints .i64 [2, 13, 22], 0, false, 3⟩, some ⟨.ints .i64 [6, 11, 25], 0, false, 3⟩, some ⟨.ints .u8 zs, g4, o4, 5⟩, some ⟨.agg [.int .i64 32, .int .i64 64, .int .i64 64, .slice 1 0 0 0 3 (some 3), .slice 1 1 0 0 3 (some 3), .slice 1 2 0 0 3 (some 3), .slice 1 3 0 0 3 (some 3)], 0, true, 54⟩, some ⟨.ints .u64 kk, g6, o6, 56⟩, some ⟨.ints .u8 xs, g7, o7, 5⟩, some ⟨.ints .u64 ss, gs, true, 56⟩, some ⟨.ints .u8 ys, g9, true, 5⟩] [some false])
theorem P36_32_ok {i : Int} {m : Nat} {cs : Option Nat} {ys : List Int} {g9 : Nat} {zs kk xs ss : List Int} {g4 g6 g7 gs : Nat} {o4 o6 o7 : Bool} (h : allP [.p (decide (i < 8) = false)]) : Ok (P36_32 i m cs ys g9 zs kk xs ss g4 g6 g7 gs o4 o6 o7) := Ok.dem (fl := [false]) (by kernel_rfl) (by kernel_rfl) (by kernel_rfl) h
theorem P36_32_ex {i : Int} {m : Nat} {cs : Option Nat} {ys : List Int} {g9 : Nat} {zs kk xs ss : List Int} {g4 g6 g7 gs : Nat} {o4 o6 o7 : Bool} : (P36_32 i m cs ys g9 zs kk xs ss g4 g6 g7 gs o4 o6 o7).ex = .exit 4 := by kernel_rfl
theorem P36_32_fm {i : Int} {m : Nat} {cs : Option Nat} {ys : List Int} {g9 : Nat} {zs kk xs ss : List Int} {g4 g6 g7 gs : Nat} {o4 o6 o7 : Bool} : (P36_32 i m cs ys g9 zs kk xs ss g4 g6 g7 gs o4 o6 o7).fm = [(11, .slice 1 9 g9 0 m none)] := by kernel_rfl
theorem P36_32_tab {i : Int} {m : Nat} {cs : Option Nat} {ys : List Int} {g9 : Nat} {zs kk xs ss : List Int} {g4 g6 g7 gs : Nat} {o4 o6 o7 : Bool} : (P36_32 i m cs ys g9 zs kk xs ss g4 g6 g7 gs o4 o6 o7).tab = [some ⟨.ints .i64 [7, 18, 3], 0, false, 3⟩, some ⟨.ints .i64 [17, 19, 10], 0, false, 3⟩, some ⟨.ints .i64 [2, 13, 22], 0, false, 3⟩, some ⟨.ints .i64 [6, 11, 25], 0, false, 3⟩, some ⟨.ints
 .u8 zs, g4, o4, 5⟩, some ⟨.agg [.int .i64 32, .int .i64 64, .int .i64 64, .slice 1 0 0 0 3 (some 3), .slice 1 1 0 0 3 (some 3), .slice 1 2 0 0 3 (some 3), .slice 1 3 0 0 3 (some 3)], 0, true, 54⟩, some ⟨.ints .u64 kk, g6, o6, 56⟩, some ⟨.ints .u8 xs, g7, o7, 5⟩, some ⟨.ints .u64 ss, gs, true, 56⟩, some ⟨.ints .u8 ys, g9, true, 5⟩] := by kernel_rfl
/-! width 64 -/
def stl64Law (xs ss : List Int) : List Int := stsLaw64 xs ss (xs.length / 128)
def FA36_64 (g6 g7 : Nat) (ck : Option Nat) (m : Nat) (gs : Nat) (cs : Option Nat) (i : Nat) : Fm := [(2, .var 5 0), (5, .slice 1 6 g6 0 80 ck), (7, .slice 1 8 gs 0 8 cs), (9, .slice 1 7 g7 0 m none), (10, .int .i64 i)]
def TA36_64 (zs kk xs : List Int) (g4 g6 g7 : Nat) (o4 o6 o7 : Bool) (ss : List Int) (gs : Nat) : Tab := [some ⟨.ints .i64 [1, 8, 7], 0, false, 3⟩, some ⟨.ints .i64 [19, 61, 6], 0, false, 3⟩, some ⟨.ints .i64 [28, 34, 39], 0, false, 3⟩, some ⟨.ints .i64 [14, 18, 41], 0, false, 3⟩, some ⟨.ints .u8 zs, g4, o4, 5⟩, some ⟨.agg [.int .i64 64, .int .i64 128, .int .i64 80, .slice 1 0 0 0 3 (some 3), .slice 1 1 0 0 3 (some 3), .slice 1 2 0 0 3 (some 3), .slice 1 3 0 0 3 (some 3)], 0, true, 54⟩, some ⟨.ints .u64 kk, g6, o6, 56⟩, some ⟨.ints .u8 xs, g7, o7, 5⟩, some ⟨.ints .u64 ss, gs, true, 56⟩]
theorem loopA36_64 {zs kk xs ss : List Int} {g4 g6 g7 : Nat} {o4 o6 o7 : Bool} {ck cs : Option Nat} {gs q : Nat} (hk : isCubesLaw kk) (hl : xs.length = 128 * q) (hq : 0 < q) (hm : xs.length ≤ 140737488355328) (hb : BsLaw xs) (hs : ss.length = 8) (hw : Wds 64 ss) :
    To eW64 77 8 (.block 2 (.loop (roundOf 2 f36))) (FA36_64 g6 g7 ck xs.length gs cs 0) (TA36_64 zs kk xs g4 g6 g7 o4 o6 o7 ss gs) .normal [(2, .var 5 0), (7, .slice 1 8 0 0 8 (some 8))] (TA36_64 zs kk xs g4 g6 g7 o4 o6 o7 (stsLaw64 xs ss q) 0) := by
  obtain ⟨q, rfl⟩ : ∃ p, q = p + 1 := ⟨q - 1, by omega⟩
  refine To.rounds (fun i => FA36_64 g6 g7 ck xs.length (gxs gs i) (cxs cs i) (128 * i)) (fun i => TA36_64 zs kk xs g4 g6 g7 o4 o6 o7 (stsLaw64 xs ss i) (gxs gs i)) (q + 1) (fun i hi => ?_)
    (To.of (o := B36_64 (128 * (q + 1) : Nat) xs.length ck (some 8) zs kk xs (stsLaw64 xs ss (q + 1)) g4 g6 g7 0 o4 o6 o7) eW64_ok hmS (Nat.le_refl 8) OrcOk.nil rfl (B36_64_ok (by simp only [allP, Con.h, decide_eq_false_iff_not, eq_self, true_and, and_true]; omega)) B36_64_ex B36_64_fm B36_64_tab)
  have e1 := stsLaw64_len (xs := xs) hs i
  have e2 : WdsLaw 64 (stsLaw64 xs ss i) := stsLaw64_wds (xs := xs) hw i
  show To _ _ _ _ _ _ _ _ (TA36_64 zs kk xs g4 g6 g7 o4 o6 o7 (bks64Law xs (128 * i) (stsLaw64 xs ss i)) 0)
  refine To.ofG (o := A36_64 (128 * i : Nat) xs.length ck (cxs cs i) zs kk xs (stsLaw64 xs ss i) g4 g6 g7 (gxs gs i) o4 o6 o7) eW64_ok hmS (Nat.le_refl 8) OrcOk.nil rfl (A36_64_ok ?_) A36_64_ex ?_ ?_
  · simp only [allP, Con.h, subO_eq, e1, e2, hb, hk, Int.toNat_natCast, show (((128 * i : Nat) : Int) + 128).toNat = 128 * i + 128 by omega, decide_eq_true_eq, eq_self, true_and, and_true]
    omega
  · rw [A36_64_fm, show ((128 * i : Nat) : Int) + 128 = ((128 * (i + 1) : Nat) : Int) by omega]
    rfl
  · rw [A36_64_tab, Int.toNat_natCast]
    rfl
noncomputable def gA36_64c (vs : List AVal) (T : Tab) (zs : List Int) (kk : List Int) (xs : List Int) (ss : List Int) (g4 : Nat) (g6 : Nat) (g7 : Nat) (gs : Nat) (o4 : Bool) (o6 : Bool) (o7 : Bool) (ck : Option Nat) (cs : Option Nat) (m : Nat) : Out := ⟨[.tab T [some ⟨.ints .i64 [1, 8, 7], 0, false, 3⟩, some ⟨.ints .i64 [19, 61, 6], 0, false, 3⟩, some ⟨.ints .i64 [28, 34, 39], 0, false, 3⟩, some ⟨.ints .i64 [14, 18, 41], 0, false, 3⟩, some ⟨.ints .u8 zs, g4, o4, 5⟩, some ⟨.agg [.int .i64 64, .int .i64 128, .int .i64 80, .slice 1 0 0 0 3 (some 3), .slice 1 1 0 0 3 (some 3), .slice 1 2 0 0 3 (some 3), .slice 1 3 0 0 3 (some 3)], 0, true, 54⟩, some ⟨.ints .u64 kk, g6, o6, 56⟩, some ⟨.ints .u8 xs, g7, o7, 5⟩, some ⟨.ints .u64 ss, gs, true, 56⟩], .val (.tuple vs) (.tuple [.var 5 0, .slice 1 6 g6 0 80 ck, .slice 1 8 gs 0 8 cs, .slice 1 7 g7 0 m none, .int .i64 0]), .eqN m xs.length, .p (isCubesLaw kk), .eqN (xs.length % 128) 0, .leN 1 xs.length, .leN xs.length 140737488355328, .p (BsLaw xs), .eqN ss.length 8, .p (WdsLaw 64 ss)], .normal, [(2, .var 5 0), (7, .slice 1 8 0 0 8 (some 8))], [some ⟨.ints .i64 [1, 8, 7], 0, false, 3⟩, some ⟨.ints .i64 [19, 61, 6], 0, false, 3⟩, some ⟨.ints .i64 [28, 34, 39], 0, false, 3⟩, some ⟨.ints .i64 [14, 18, 41], 0, false, 3⟩, some ⟨.ints .u8 zs, g4, o4, 5⟩, some ⟨.agg [.int .i64 64, .int .i64 128, .int .i64 80, .slice 1 0 0 0 3 (some 3), .slice 1 1 0 0 3 (some 3), .slice 1 2 0 0 3 (some 3), .slice 1 3 0 0 3 (some 3)], 0, true, 54⟩, some ⟨.ints .u64 kk, g6, o6, 56⟩, some ⟨.ints .u8 xs, g7, o7, 5⟩, some ⟨.ints .u64 (stl64Law xs ss), 0, true, 56⟩], []⟩
theorem gA36_64c_ok {vs : List AVal} {T : Tab} {zs : List Int} {kk : List Int} {xs : List Int} {ss : List Int} {g4 : Nat} {g6 : Nat} {g7 : Nat} {gs : Nat} {o4 : Bool} {o6 : Bool} {o7 : Bool} {ck : Option Nat} {cs : Option Nat} {m : Nat} (h : Ok (gA36_64c vs T zs kk xs ss g4 g6 g7 gs o4 o6 o7 ck cs m)) : To eW64 77 5 (.block 2 (.loop (roundOf 2 f36))) (zipF [2,5,7,9,10] vs) T (gA36_64c vs T zs kk xs ss g4 g6 g7 gs o4 o6 o7 ck cs m).ex (gA36_64c vs T zs kk xs ss g4 g6 g7 gs o4 o6 o7 ck cs m).fm (gA36_64c vs T zs kk xs ss g4 g6 g7 gs o4 o6 o7 ck cs m).tab := by
  obtain ⟨hT, hv, h1, h2, h3, h4, h5, h6, h7, h8, _⟩ := h.h
  simp only [Con.h] at hT hv h1 h2 h3 h4 h5 h6 h7 h8
  injection hv with hv
  subst hT hv
  subst h1
  exact To.base (by decide) (loopA36_64 (q := xs.length / 128) h2 (by omega) (by omega) h5 h6 h7 h8)
noncomputable def gA36_64 : List AVal → Tab → Out := fun vs T => gA36_64c vs T (xsAt T 4) (xsAt T 6) (xsAt T 7) (xsAt T 8) (gAt T 4) (gAt T 6) (gAt T 7) (gAt T 8) (owAt T 4) (owAt T 6) (owAt T 7) (capOf (vAt vs 1)) (capOf (vAt vs 2)) (lenOf (vAt vs 3))
theorem gA36_64_ok : BlkOk eW64 f36 2 (.loop (roundOf 2 f36)) (blkGC 5 [0,1,2,3,4,5,6,17,9] [2,5,7,9,10] gA36_64) := blkGC_ok fun vs T h => gA36_64c_ok h
noncomputable def gC36_64c (vs : List AVal) (T : Tab) (zs : List Int) (kk : List Int) (xs : List Int) (ss : List Int) (g4 : Nat) (g6 : Nat) (g7 : Nat) (gs : Nat) (o4 : Bool) (o6 : Bool) (o7 : Bool) (cs : Option Nat) (ys : List Int) (g9 : Nat) (m : Nat) (i : Int) : Out := ⟨[.tab T [some ⟨.ints .i64 [1, 8, 7], 0, false, 3⟩, some ⟨.ints .i64 [19, 61, 6], 0, false, 3⟩, some ⟨.ints .i64 [28, 34, 39], 0, false, 3⟩, some ⟨.ints .i64 [14, 18, 41], 0, false, 3⟩, some ⟨.ints .u8 zs, g4, o4, 5⟩, some ⟨.agg [.int .i64 64, .int .i64 128, .int .i64 80, .slice 1 0 0 0 3 (some 3), .slice 1 1 0 0 3 (some 3), .slice 1 2 0 0 3 (some 3), .slice 1 3 0 0 3 (some 3)], 0, true, 54⟩, some ⟨.ints .u64 kk, g6, o6, 56⟩, some ⟨.ints .u8 xs, g7, o7, 5⟩, some ⟨.ints .u64 ss, gs, true, 56⟩, some ⟨.ints .u8 ys, g9, true, 5⟩], .val (.tuple vs) (.tuple [.var 5 0, .slice 1 8 gs 0 8 cs, .slice 1 9 g9 0 m none, .int .i64 i, .int .i64 56]), .eqN m ys.length, .rng 0 i 7, .eqN ss.length 8, .leN (ys.length + 8) 140737488355328], .normal, [(2, .var 5 0), (7, .slice 1 8 gs 0 8 cs), (11, .slice 1 9 (g9 + 8) 0 (m + 8) none), (12, .int .i64 i)], [some ⟨.ints .i64 [1, 8, 7], 0, false, 3⟩, some ⟨.ints .i64 [19, 61, 6], 0, false, 3⟩, some ⟨.ints .i64 [28, 34, 39], 0, false, 3⟩, some ⟨.ints .i64 [14, 18, 41], 0, false, 3⟩, some ⟨.ints .u8 zs, g4, o4, 5⟩, some ⟨.agg [.int .i64 64, .int .i64 128, .int .i64 80, .slice 1 0 0 0 3 (some 3), .slice 1 1 0 0 3 (some 3), .slice 1 2 0 0 3 (some 3), .slice 1 3 0 0 3 (some 3)], 0, true, 54⟩, some ⟨.ints .u64 kk, g6, o6, 56⟩, some ⟨.ints .u8 xs, g7, o7, 5⟩, some ⟨.ints .u64 ss, gs, true, 56⟩, some ⟨.ints .u8 (ys ++ beLaw 8 (ss.getD i.toNat 0)), g9 + 8, true, 5⟩], []⟩
theorem gC36_64c_ok {vs : List AVal} {T : Tab} {zs : List Int} {kk : List Int} {xs : List Int} {ss : List Int} {g4 : Nat} {g6 : Nat} {g7 : Nat} {gs : Nat} {o4 : Bool} {o6 : Bool} {o7 : Bool} {cs : Option Nat} {ys : List Int} {g9 : Nat} {m : Nat} {i : Int} (h : Ok (gC36_64c vs T zs kk xs ss g4 g6 g7 gs o4 o6 o7 cs ys g9 m i)) : To eW64 77 10 (.block 6 (.loop (roundOf 6 f36))) (zipF [2,7,11,12,13] vs) T (gC36_64c vs T zs kk xs ss g4 g6 g7 gs o4 o6 o7 cs ys g9 m i).ex (gC36_64c vs T zs kk xs ss g4 g6 g7 gs o4 o6 o7 cs ys g9 m i).fm (gC36_64c vs T zs kk xs ss g4 g6 g7 gs o4 o6 o7 cs ys g9 m i).tab := by
  obtain ⟨hT, hv, h1, h2, h3, h4, _⟩ := h.h
  simp only [Con.h] at hT hv h1 h2 h3 h4
  injection hv with hv
  subst hT hv
  subst h1
  refine To.of (o := C36_64 i 0 cs ys g9 zs kk xs ss g4 g6 g7 gs o4 o6 o7) eW64_ok hmS (Nat.le_refl 10) OrcOk.nil rfl (C36_64_ok ?_) C36_64_ex (by rw [C36_64_fm]; simp only [addO_eq]; rfl) ?_
  · simp only [allP, Con.h, addO_eq, List.take_length, take_snoc, List.length_append, List.length_cons, List.length_nil, Nat.zero_add, Nat.le_refl, eq_self, true_and, and_true]
    omega
  · rw [C36_64_tab]
    simp only [addO_eq, List.take_length, take_snoc, List.length_append, List.length_cons, List.length_nil, Nat.zero_add]
    show _ = ([some ⟨.ints .i64 [1, 8, 7], 0, false, 3⟩, some ⟨.ints .i64 [19, 61, 6], 0, false, 3⟩, some ⟨.ints .i64 [28, 34, 39], 0, false, 3⟩, some ⟨.ints .i64 [14, 18, 41], 0, false, 3⟩, some ⟨.ints .u8 zs, g4, o4, 5⟩, some ⟨.agg [.int .i64 64, .int .i64 128, .int .i64 80, .slice 1 0 0 0 3 (some 3), .slice 1 1 0 0 3 (some 3), .slice 1 2 0 0 3 (some 3), .slice 1 3 0 0 3 (some 3)], 0, true, 54⟩, some ⟨.ints .u64 kk, g6, o6, 56⟩, some ⟨.ints .u8 xs, g7, o7, 5⟩, some ⟨.ints .u64 ss, gs, true, 56⟩, some ⟨.ints .u8 (ys ++ beLaw 8 (ss.getD i.toNat 0)), g9 + 8, true, 5⟩] : Tab)
    simp only [List.append_assoc]
    rfl
noncomputable def gC36_64 : List AVal → Tab → Out := fun vs T => gC36_64c vs T (xsAt T 4) (xsAt T 6) (xsAt T 7) (xsAt T 8) (gAt T 4) (gAt T 6) (gAt T 7) (gAt T 8) (owAt T 4) (owAt T 6) (owAt T 7) (capOf (vAt vs 1)) (xsAt T 9) (gAt T 9) (lenOf (vAt vs 2)) (iOf (vAt vs 3))
theorem gC36_64_ok : BlkOk eW64 f36 6 (.loop (roundOf 6 f36)) (blkS 10 [2,7,11,12,13] gC36_64) := blkS_ok fun vs T h => gC36_64c_ok h
noncomputable def O36_64 (i : Int) (m : Nat) (cs : Option Nat) (ys : List Int) (g9 : Nat) (zs kk xs ss : List Int) (g4 g6 g7 gs : Nat) (o4 o6 o7 : Bool) : Out := trim 9 10 [2,7,11,12] (run eW64 77 ⟨10, [(6, blkS 10 [2,7,11,12,13] gC36_64)]⟩ 400 (roundOf 4 f36) [(2, .var 5 0), (7, .slice 1 8 gs 0 8 cs), (11, .slice 1 9 g9 0 m none), (12, .int .i64 i)] [some ⟨.ints .i64 [1, 8, 7], 0, false, 3⟩, some ⟨.ints .i64 [19, 61, 6], 0, false, 3⟩, some ⟨.ints .i64 [28, 34, 39], 0, false, 3⟩, some ⟨.ints .i64 [14, 18, 41], 0, false, 3⟩, some ⟨.ints .u8 zs, g4, o4, 5⟩, some ⟨.agg [.int .i64 64, .int .i64 128, .int .i64 80, .slice 1 0 0 0 3 (some 3), .slice 1 1 0 0 3 (some 3), .slice 1 2 0 0 3 (some 3), .slice 1 3 0 0 3 (some 3)], 0, true, 54⟩, some ⟨.ints .u64 kk, g6, o6, 56⟩, some ⟨.ints .u8 xs, g7, o7, 5⟩, some ⟨.ints .u64 ss, gs, true, 56⟩, some ⟨.ints .u8 ys, g9, true, 5⟩] [some true])
theorem O36_64_ok {i : Int} {m : Nat} {cs : Option Nat} {ys : List Int} {g9 : Nat} {zs kk xs ss : List Int} {g4 g6 g7 gs : Nat} {o4 o6 o7 : Bool} (h : allP [.p (decide (i < 8) = true), .eqN m ys.length, .rng 0 i 7, .eqN ss.length 8, .leN (ys.length + 8) 140737488355328, .rng (-9223372036854775808) (i + 1) 9223372036854775807]) : Ok (O36_64 i m cs ys g9 zs kk xs ss g4 g6 g7 gs o4 o6 o7) := Ok.dem
 (fl := bitsF 12 30) (by kernel_rfl) (by kernel_rfl) (by kernel_rfl) h
theorem O36_64_ex {i : Int} {m : Nat} {cs : Option Nat} {ys : List Int} {g9 : Nat} {zs kk xs ss : List Int} {g4 g6 g7 gs : Nat} {o4 o6 o7 : Bool} : (O36_64 i m cs ys g9 zs kk xs ss g4 g6 g7 gs o4 o6 o7).ex = .normal := by kernel_rfl
theorem O36_64_fm {i : Int} {m : Nat} {cs : Option Nat} {ys : List Int} {g9 : Nat} {zs kk xs ss : List Int} {g4 g6 g7 gs : Nat} {o4 o6 o7 : Bool} : (O36_64 i m cs ys g9 zs kk xs ss g4 g6 g7 gs o4 o6 o7).fm = [(2, .var 5 0), (7, .slice 1 8 gs 0 8 cs), (11, .slice 1 9 (g9 + 8) 0 (m + 8) none), (12, .int .i64 (i + 1))] := by kernel_rfl
theorem O36_64_tab {i : Int} {m : Nat} {cs : Option Nat} {ys : List Int} {g9 : Nat} {zs kk xs ss : List Int} {g4 g6 g7 gs : Nat} {o4 o6 o7 : Bool} : (O36_64 i m cs ys g9 zs kk xs ss g4 g6 g7 gs o4 o6 o7).tab = [some ⟨.ints .i64 [1, 8, 7], 0, false, 3⟩, some ⟨.ints .i64 [19, 61, 6], 0, false, 3⟩, some ⟨.ints .i64 [28, 34, 39], 0, false, 3⟩, some ⟨.ints .i64 [14, 18, 41], 0, false, 3⟩, some ⟨.ints
 .u8 zs, g4, o4, 5⟩, some ⟨.agg [.int .i64 64, .int .i64 128, .int .i64 80, .slice 1 0 0 0 3 (some 3), .slice 1 1 0 0 3 (some 3), .slice 1 2 0 0 3 (some 3), .slice 1 3 0 0 3 (some 3)], 0, true, 54⟩, some ⟨.ints .u64 kk, g6, o6, 56⟩, some ⟨.ints .u8 xs, g7, o7, 5⟩, some ⟨.ints .u64 ss, gs, true, 56⟩, some ⟨.ints .u8 (ys ++ beLaw 8 (ss.getD i.toNat 0)), g9 + 8, true, 5⟩] := by kernel_rfl
noncomputable def P36_64 (i : Int) (m : Nat) (cs : Option Nat) (ys : List Int) (g9 : Nat) (zs kk xs ss : List Int) (g4 g6 g7 gs : Nat) (o4 o6 o7 : Bool) : Out := trim 9 10 [11] (run eW64 77 ⟨10, [(6, blkS 10 [2,7,11,12,13] gC36_64)]⟩ 400 (roundOf 4 f36) [(2, .var 5 0), (7, .slice 1 8 gs 0 8 cs), (11, .slice 1 9 g9 0 m none), (12, .int .i64 i)] [some ⟨.ints .i64 [1, 8, 7], 0, false, 3⟩, some ⟨.ints .i64 [19, 61, 6], 0, false, 3⟩, some ⟨.ints .i64 [28, 34, 39], 0, false, 3⟩, some ⟨.ints .i64 [14, 18, 41], 0, false, 3⟩, some ⟨.ints .u8 zs, g4, o4, 5⟩, some ⟨.agg [.int .i64 64, .int .i64 128, .int .i64 80, .slice 1 0 0 0 3 (some 3), .slice 1 1 0 0 3 (some 3), .slice 1 2 0 0 3 (some 3), .slice 1 3 0 0 3 (some 3)], 0, true, 54⟩, some ⟨.ints .u64 kk, g6, o6, 56⟩, some ⟨.ints .u8 xs, g7, o7, 5⟩, some ⟨.ints .u64 ss, gs, true, 56⟩, some ⟨.ints .u8 ys, g9, true, 5⟩] [some false])
theorem P36_64_ok {i : Int} {m : Nat} {cs : Option Nat} {ys : List Int} {g9 : Nat} {zs kk xs ss : List Int} {g4 g6 g7 gs : Nat} {o4 o6 o7 : Bool} (h : allP [.p (decide (i < 8) = false)]) : Ok (P36_64 i m cs ys g9 zs kk xs ss g4 g6 g7 gs o4 o6 o7) := Ok.dem (fl := [false]) (by kernel_rfl) (by kernel_rfl) (by kernel_rfl) h
theorem P36_64_ex {i : Int} {m : Nat} {cs : Option Nat} {ys : List Int} {g9 : Nat} {zs kk xs ss : List Int} {g4 g6 g7 gs : Nat} {o4 o6 o7 : Bool} : (P36_64 i m cs ys g9 zs kk xs ss g4 g6 g7 gs o4 o6 o7).ex = .exit 4 := by kernel_rfl
theorem P36_64_fm {i : Int} {m : Nat} {cs : Option Nat} {ys : List Int} {g9 : Nat} {zs kk xs ss : List Int} {g4 g6 g7 gs : Nat} {o4 o6 o7 : Bool} : (P36_64 i m cs ys g9 zs kk xs ss g4 g6 g7 gs o4 o6 o7).fm = [(11, .slice 1 9 g9 0 m none)] := by kernel_rfl
theorem P36_64_tab {i : Int} {m : Nat} {cs : Option Nat} {ys : List Int} {g9 : Nat} {zs kk xs ss : List Int} {g4 g6 g7 gs : Nat} {o4 o6 o7 : Bool} : (P36_64 i m cs ys g9 zs kk xs ss g4 g6 g7 gs o4 o6 o7).tab = [some ⟨.ints .i64 [1, 8, 7], 0, false, 3⟩, some ⟨.ints .i64 [19, 61, 6], 0, false, 3⟩, some ⟨.ints .i64 [28, 34, 39], 0, false, 3⟩, some ⟨.ints .i64 [14, 18, 41], 0, false, 3⟩, some ⟨.ints
 .u8 zs, g4, o4, 5⟩, some ⟨.agg [.int .i64 64, .int .i64 128, .int .i64 80, .slice 1 0 0 0 3 (some 3), .slice 1 1 0 0 3 (some 3), .slice 1 2 0 0 3 (some 3), .slice 1 3 0 0 3 (some 3)], 0, true, 54⟩, some ⟨.ints .u64 kk, g6, o6, 56⟩, some ⟨.ints .u8 xs, g7, o7, 5⟩, some ⟨.ints .u64 ss, gs, true, 56⟩, some ⟨.ints .u8 ys, g9, true, 5⟩] := by kernel_rfl
end Go.Abs

set_option linter.unusedVariables false
set_option linter.unusedSimpArgs false
set_option maxRecDepth 8000
set_option maxHeartbeats 4000000
namespace Go.Abs
open Go.Proofs Go.Proofs.Tryd
/-! ### the document's sum -/
/-! width 32 -/
def FO36_32 (gs : Nat) (cs : Option Nat) (i : Nat) : Fm := [(2, .var 5 0), (7, .slice 1 8 gs 0 8 cs), (11, .slice 1 9 (4 * i) 0 (4 * i) none), (12, .int .i64 i)]
def TO36_32 (zs kk xs ss : List Int) (g4 g6 g7 gs : Nat) (o4 o6 o7 : Bool) (ys : List Int) (g9 : Nat) : Tab := [some ⟨.ints .i64 [7, 18, 3], 0, false, 3⟩, some ⟨.ints .i64 [17, 19, 10], 0, false, 3⟩, some ⟨.ints .i64 [2, 13, 22], 0, false, 3⟩, some ⟨.ints .i64 [6, 11, 25], 0, false, 3⟩, some ⟨.ints .u8 zs, g4, o4, 5⟩, some ⟨.agg [.int .i64 32, .int .i64 64, .int .i64 64, .slice 1 0 0 0 3 (some 3), .slice 1 1 0 0 3 (some 3), .slice 1 2 0 0 3 (some 3), .slice 1 3 0 0 3 (some 3)], 0, true, 54⟩, some ⟨.ints .u64 kk, g6, o6, 56⟩, some ⟨.ints .u8 xs, g7, o7, 5⟩, some ⟨.ints .u64 ss, gs, true, 56⟩, some ⟨.ints .u8 ys, g9, true, 5⟩]
theorem loopO36_32 {zs kk xs ss : List Int} {g4 g6 g7 gs : Nat} {o4 o6 o7 : Bool} {cs : Option Nat} (hs : ss.length = 8) :
    To eW32 77 9 (.block 4 (.loop (roundOf 4 f36))) (FO36_32 gs cs 0) (TO36_32 zs kk xs ss g4 g6 g7 gs o4 o6 o7 (bysLaw 4 ss 0) 0) .normal [(11, .slice 1 9 32 0 32 none)] (TO36_32 zs kk xs ss g4 g6 g7 gs o4 o6 o7 (bysLaw 4 ss 8) 32) := by
  have hO : OrcOk eW32 77 ⟨10, [(6, blkS 10 [2,7,11,12,13] gC36_32)]⟩ (roundOf 4 f36) := OrcOk.cons (fn := f36) gC36_32_ok (by kernel_rfl) OrcOk.nil
  refine To.rounds (FO36_32 gs cs) (fun i => TO36_32 zs kk xs ss g4 g6 g7 gs o4 o6 o7 (bysLaw 4 ss i) (4 * i)) 8 (fun i hi => ?_)
    (To.of (o := P36_32 (8 : Nat) 32 cs (bysLaw 4 ss 8) 32 zs kk xs ss g4 g6 g7 gs o4 o6 o7) eW32_ok hmS (by decide) hO rfl (P36_32_ok (by simp [allP, Con.h])) P36_32_ex P36_32_fm P36_32_tab)
  have hl := bys_len 4 ss i
  refine To.of (o := O36_32 i (4 * i) cs (bysLaw 4 ss i) (4 * i) zs kk xs ss g4 g6 g7 gs o4 o6 o7) eW32_ok hmS (by decide) hO rfl (O36_32_ok ?_) O36_32_ex (by rw [O36_32_fm]; rfl) ?_
  · simp only [allP, Con.h, hl, hs, decide_eq_true_eq, eq_self, true_and, and_true]
    omega
  · rw [O36_32_tab, Int.toNat_natCast]
    rfl
noncomputable def gO36_32c (vs : List AVal) (T : Tab) (zs : List Int) (kk : List Int) (xs : List Int) (ss : List Int) (g4 : Nat) (g6 : Nat) (g7 : Nat) (gs : Nat) (o4 : Bool) (o6 : Bool) (o7 : Bool) (cs : Option Nat) : Out := ⟨[.tab T [some ⟨.ints .i64 [7, 18, 3], 0, false, 3⟩, some ⟨.ints .i64 [17, 19, 10], 0, false, 3⟩, some ⟨.ints .i64 [2, 13, 22], 0, false, 3⟩, some ⟨.ints .i64 [6, 11, 25], 0, false, 3⟩, some ⟨.ints .u8 zs, g4, o4, 5⟩, some ⟨.agg [.int .i64 32, .int .i64 64, .int .i64 64, .slice 1 0 0 0 3 (some 3), .slice 1 1 0 0 3 (some 3), .slice 1 2 0 0 3 (some 3), .slice 1 3 0 0 3 (some 3)], 0, true, 54⟩, some ⟨.ints .u64 kk, g6, o6, 56⟩, some ⟨.ints .u8 xs, g7, o7, 5⟩, some ⟨.ints .u64 ss, gs, true, 56⟩], .val (.tuple vs) (.tuple [.var 5 0, .slice 1 8 gs 0 8 cs, .nilSlice, .int .i64 0]), .eqN ss.length 8], .normal, [(11, .slice 1 9 32 0 32 none)], [some ⟨.ints .i64 [7, 18, 3], 0, false, 3⟩, some ⟨.ints .i64 [17, 19, 10], 0, false, 3⟩, some ⟨.ints .i64 [2, 13, 22], 0, false, 3⟩, some ⟨.ints .i64 [6, 11, 25], 0, false, 3⟩, some ⟨.ints .u8 zs, g4, o4, 5⟩, some ⟨.agg [.int .i64 32, .int .i64 64, .int .i64 64, .slice 1 0 0 0 3 (some 3), .slice 1 1 0 0 3 (some 3), .slice 1 2 0 0 3 (some 3), .slice 1 3 0 0 3 (some 3)], 0, true, 54⟩, some ⟨.ints .u64 kk, g6, o6, 56⟩, some ⟨.ints .u8 xs, g7, o7, 5⟩, some ⟨.ints .u64 ss, gs, true, 56⟩, some ⟨.ints .u8 (bysLaw 4 ss 8), 32, true, 5⟩], []⟩
theorem gO36_32c_ok {vs : List AVal} {T : Tab} {zs : List Int} {kk : List Int} {xs : List Int} {ss : List Int} {g4 : Nat} {g6 : Nat} {g7 : Nat} {gs : Nat} {o4 : Bool} {o6 : Bool} {o7 : Bool} {cs : Option Nat} (h : Ok (gO36_32c vs T zs kk xs ss g4 g6 g7 gs o4 o6 o7 cs)) : To eW32 77 9 (.block 4 (.loop (roundOf 4 f36))) (zipF [2,7,11,12] vs) T (gO36_32c vs T zs kk xs ss g4 g6 g7 gs o4 o6 o7 cs).ex (gO36_32c vs T zs kk xs ss g4 g6 g7 gs o4 o6 o7 cs).fm (gO36_32c vs T zs kk xs ss g4 g6 g7 gs o4 o6 o7 cs).tab := by
  obtain ⟨hT, hv, h1, _⟩ := h.h
  simp only [Con.h] at hT hv h1
  injection hv with hv
  subst hT hv
  refine AWp.nilTo (FO36_32 gs cs 0) .u8 5 (fun t v hv => ?_) (loopO36_32 h1)
  simp only [FO36_32, look, zipF] at hv ⊢
  repeat' split at hv
  all_goals first | cases hv | skip
  all_goals first | rfl | simp_all [look]
noncomputable def gO36_32 : List AVal → Tab → Out := fun vs T => gO36_32c vs T (xsAt T 4) (xsAt T 6) (xsAt T 7) (xsAt T 8) (gAt T 4) (gAt T 6) (gAt T 7) (gAt T 8) (owAt T 4) (owAt T 6) (owAt T 7) (capOf (vAt vs 1))
theorem gO36_32_ok : BlkOk eW32 f36 4 (.loop (roundOf 4 f36)) (blkS 9 [2,7,11,12] gO36_32) := blkS_ok fun vs T h => gO36_32c_ok h
noncomputable def orc36_32 : OrcL := [(2, blkGC 5 [0,1,2,3,4,5,6,17,9] [2,5,7,9,10] gA36_32), (4, blkS 9 [2,7,11,12] gO36_32)]
theorem orc36_32_ok : FnOrc eW32 f36 orc36_32 := FnOrc.cons gA36_32_ok (by kernel_rfl) (FnOrc.cons gO36_32_ok (by kernel_rfl) FnOrc.nil)
noncomputable def R36_32 (zs : List Int) (g4 off n : Nat) (cp : Option Nat) : Res := resG 5 [0, 1, 2, 3, 4, 9] (runF eW32 f36 orc36_32 1000 [.agg [.int .i64 32, .int .i64 64, .int .i64 64, .slice 1 0 0 0 3 (some 3), .slice 1 1 0 0 3 (some 3), .slice 1 2 0 0 3 (some 3), .slice 1 3 0 0 3 (some 3)], .slice 1 4 g4 off n cp] [some ⟨.ints .i64 [7, 18, 3], 0, false, 3⟩, some ⟨.ints .i64 [17, 19, 10], 0, false, 3⟩, some ⟨.ints .i64 [2, 13, 22], 0, false, 3⟩, some ⟨.ints .i64 [6, 11, 25], 0, false, 3⟩, some ⟨.ints .u8 zs, g4, false, 5⟩] [])
theorem R36_32_ok {zs : List Int} {g4 off n : Nat} {cp : Option Nat} (h : allP [.eqN g4 g4, .leN (off + n) zs.length, .leN n 140737488355000, .eqN (n + 1 + padLaw 64 (n + 1) + 8) (fillLaw 64 (subLaw zs off n)).length, .p (isCubesLaw [4794697086780616226, 8158064640168781261, 13096744586834688815, 16840607885511220156, 4131703408338449720, 6480981068601479193, 10538285296894168987,
 12329834152419229976, 15566598209576043074, 1334009975649890238, 2608012711638119052, 6128411473006802146, 8268148722764581231, 9286055187155687089, 11230858885718282805, 13951009754708518548, 16472876342353939154, 17275323862435702243, 1135362057144423861, 2597628984639134821, 3308224258029322869, 5365058923640841347, 6679025012923562964, 8573033837759648693, 10970295158949994411,
 12119686244451234320, 12683024718118986047, 13788192230050041572, 14330467153632333762, 15395433587784984357, 489312712824947311, 1452737877330783856, 2861767655752347644, 3322285676063803686, 5560940570517711597, 5996557281743188959, 7280758554555802590, 8532644243296465576, 9350256976987008742, 10552545826968843579, 11727347734174303076, 12113106623233404929, 14000437183269869457,
 14369950271660146224, 15101387698204529176, 15463397548674623760, 17586052441742319658, 1182934255886127544, 1847814050463011016, 2177327727835720531, 2830643537854262169, 3796741975233480872, 4115178125766777443, 5681478168544905931, 6601373596472566643, 7507060721942968483, 8399075790359081724, 8693463985226723168, 9568029438360202098, 10144078919501101548, 10430055236837252648,
 11840083180663258601, 13761210420658862357, 14299343276471374635, 14566680578165727644, 15097957966210449927, 16922976911328602910, 17689382322260857208, 500013540394364858, 748580250866718886, 1242879168328830382, 1977374033974150939, 2944078676154940804, 3659926193048069267, 4368137639120453308, 4836135668995329356, 5532061633213252278, 6448918945643986474, 6902733635092675308,
 7801388544844847127]), .eqN ((fillLaw 64 (subLaw zs off n)).length % 64) 0, .leN 1 (fillLaw 64 (subLaw zs off n)).length, .leN (fillLaw 64 (subLaw zs off n)).length 140737488355328, .p (BsLaw (fillLaw 64 (subLaw zs off n))), .p (WdsLaw 32 [1779033703, 3144134277, 1013904242, 2773480762, 1359893119, 2600822924, 528734635, 1541459225]), .eqN (stl32Law (fillLaw 64 (subLaw zs off n)) [1779033703,
 3144134277, 1013904242, 2773480762, 1359893119, 2600822924, 528734635, 1541459225]).length 8]) : OkR (R36_32 zs g4 off n cp) := OkR.dem (fl := bitsF 392 315254376611790546380053958235182707860228557227515329200735770823137957719279333810317123054630908859391962330955775) (by kernel_rfl) (by kernel_rfl) (by kernel_rfl) h
theorem R36_32_val {zs : List Int} {g4 off n : Nat} {cp : Option Nat} : (R36_32 zs g4 off n cp).val = .slice 1 5 32 0 32 none := by kernel_rfl
theorem R36_32_tab {zs : List Int} {g4 off n : Nat} {cp : Option Nat} : (R36_32 zs g4 off n cp).tab = [some ⟨.ints .i64 [7, 18, 3], 0, false, 3⟩, some ⟨.ints .i64 [17, 19, 10], 0, false, 3⟩, some ⟨.ints .i64 [2, 13, 22], 0, false, 3⟩, some ⟨.ints .i64 [6, 11, 25], 0, false, 3⟩, some ⟨.ints .u8 zs, g4, false, 5⟩, some ⟨.ints .u8 (bysLaw 4 (stl32Law (fillLaw 64 (subLaw zs off n)) [1779033703,
 3144134277, 1013904242, 2773480762, 1359893119, 2600822924, 528734635, 1541459225]) 8), 32, true, 5⟩] := by kernel_rfl
/-! width 64 -/
def FO36_64 (gs : Nat) (cs : Option Nat) (i : Nat) : Fm := [(2, .var 5 0), (7, .slice 1 8 gs 0 8 cs), (11, .slice 1 9 (8 * i) 0 (8 * i) none), (12, .int .i64 i)]
def TO36_64 (zs kk xs ss : List Int) (g4 g6 g7 gs : Nat) (o4 o6 o7 : Bool) (ys : List Int) (g9 : Nat) : Tab := [some ⟨.ints .i64 [1, 8, 7], 0, false, 3⟩, some ⟨.ints .i64 [19, 61, 6], 0, false, 3⟩, some ⟨.ints .i64 [28, 34, 39], 0, false, 3⟩, some ⟨.ints .i64 [14, 18, 41], 0, false, 3⟩, some ⟨.ints .u8 zs, g4, o4, 5⟩, some ⟨.agg [.int .i64 64, .int .i64 128, .int .i64 80, .slice 1 0 0 0 3 (some 3), .slice 1 1 0 0 3 (some 3), .slice 1 2 0 0 3 (some 3), .slice 1 3 0 0 3 (some 3)], 0, true, 54⟩, some ⟨.ints .u64 kk, g6, o6, 56⟩, some ⟨.ints .u8 xs, g7, o7, 5⟩, some ⟨.ints .u64 ss, gs, true, 56⟩, some ⟨.ints .u8 ys, g9, true, 5⟩]
theorem loopO36_64 {zs kk xs ss : List Int} {g4 g6 g7 gs : Nat} {o4 o6 o7 : Bool} {cs : Option Nat} (hs : ss.length = 8) :
    To eW64 77 9 (.block 4 (.loop (roundOf 4 f36))) (FO36_64 gs cs 0) (TO36_64 zs kk xs ss g4 g6 g7 gs o4 o6 o7 (bysLaw 8 ss 0) 0) .normal [(11, .slice 1 9 64 0 64 none)] (TO36_64 zs kk xs ss g4 g6 g7 gs o4 o6 o7 (bysLaw 8 ss 8) 64) := by
  have hO : OrcOk eW64 77 ⟨10, [(6, blkS 10 [2,7,11,12,13] gC36_64)]⟩ (roundOf 4 f36) := OrcOk.cons (fn := f36) gC36_64_ok (by kernel_rfl) OrcOk.nil
  refine To.rounds (FO36_64 gs cs) (fun i => TO36_64 zs kk xs ss g4 g6 g7 gs o4 o6 o7 (bysLaw 8 ss i) (8 * i)) 8 (fun i hi => ?_)
    (To.of (o := P36_64 (8 : Nat) 64 cs (bysLaw 8 ss 8) 64 zs kk xs ss g4 g6 g7 gs o4 o6 o7) eW64_ok hmS (by decide) hO rfl (P36_64_ok (by simp [allP, Con.h])) P36_64_ex P36_64_fm P36_64_tab)
  have hl := bys_len 8 ss i
  refine To.of (o := O36_64 i (8 * i) cs (bysLaw 8 ss i) (8 * i) zs kk xs ss g4 g6 g7 gs o4 o6 o7) eW64_ok hmS (by decide) hO rfl (O36_64_ok ?_) O36_64_ex (by rw [O36_64_fm]; rfl) ?_
  · simp only [allP, Con.h, hl, hs, decide_eq_true_eq, eq_self, true_and, and_true]
    omega
  · rw [O36_64_tab, Int.toNat_natCast]
    rfl
noncomputable def gO36_64c (vs : List AVal) (T : Tab) (zs : List Int) (kk : List Int) (xs : List Int) (ss : List Int) (g4 : Nat) (g6 : Nat) (g7 : Nat) (gs : Nat) (o4 : Bool) (o6 : Bool) (o7 : Bool) (cs : Option Nat) : Out := ⟨[.tab T [some ⟨.ints .i64 [1, 8, 7], 0, false, 3⟩, some ⟨.ints .i64 [19, 61, 6], 0, false, 3⟩, some ⟨.ints .i64 [28, 34, 39], 0, false, 3⟩, some ⟨.ints .i64 [14, 18, 41], 0, false, 3⟩, some ⟨.ints .u8 zs, g4, o4, 5⟩, some ⟨.agg [.int .i64 64, .int .i64 128, .int .i64 80, .slice 1 0 0 0 3 (some 3), .slice 1 1 0 0 3 (some 3), .slice 1 2 0 0 3 (some 3), .slice 1 3 0 0 3 (some 3)], 0, true, 54⟩, some ⟨.ints .u64 kk, g6, o6, 56⟩, some ⟨.ints .u8 xs, g7, o7, 5⟩, some ⟨.ints .u64 ss, gs, true, 56⟩], .val (.tuple vs) (.tuple [.var 5 0, .slice 1 8 gs 0 8 cs, .nilSlice, .int .i64 0]), .eqN ss.length 8], .normal, [(11, .slice 1 9 64 0 64 none)], [some ⟨.ints .i64 [1, 8, 7], 0, false, 3⟩, some ⟨.ints .i64 [19, 61, 6], 0, false, 3⟩, some ⟨.ints .i64 [28, 34, 39], 0, false, 3⟩, some ⟨.ints .i64 [14, 18, 41], 0, false, 3⟩, some ⟨.ints .u8 zs, g4, o4, 5⟩, some ⟨.agg [.int .i64 64, .int .i64 128, .int .i64 80, .slice 1 0 0 0 3 (some 3), .slice 1 1 0 0 3 (some 3), .slice 1 2 0 0 3 (some 3), .slice 1 3 0 0 3 (some 3)], 0, true, 54⟩, some ⟨.ints .u64 kk, g6, o6, 56⟩, some ⟨.ints .u8 xs, g7, o7, 5⟩, some ⟨.ints .u64 ss, gs, true, 56⟩, some ⟨.ints .u8 (bysLaw 8 ss 8), 64, true, 5⟩], []⟩
theorem gO36_64c_ok {vs : List AVal} {T : Tab} {zs : List Int} {kk : List Int} {xs : List Int} {ss : List Int} {g4 : Nat} {g6 : Nat} {g7 : Nat} {gs : Nat} {o4 : Bool} {o6 : Bool} {o7 : Bool} {cs : Option Nat} (h : Ok (gO36_64c vs T zs kk xs ss g4 g6 g7 gs o4 o6 o7 cs)) : To eW64 77 9 (.block 4 (.loop (roundOf 4 f36))) (zipF [2,7,11,12] vs) T (gO36_64c vs T zs kk xs ss g4 g6 g7 gs o4 o6 o7 cs).ex (gO36_64c vs T zs kk xs ss g4 g6 g7 gs o4 o6 o7 cs).fm (gO36_64c vs T zs kk xs ss g4 g6 g7 gs o4 o6 o7 cs).tab := by
  obtain ⟨hT, hv, h1, _⟩ := h.h
  simp only [Con.h] at hT hv h1
  injection hv with hv
  subst hT hv
  refine AWp.nilTo (FO36_64 gs cs 0) .u8 5 (fun t v hv => ?_) (loopO36_64 h1)
  simp only [FO36_64, look, zipF] at hv ⊢
  repeat' split at hv
  all_goals first | cases hv | skip
  all_goals first | rfl | simp_all [look]
noncomputable def gO36_64 : List AVal → Tab → Out := fun vs T => gO36_64c vs T (xsAt T 4) (xsAt T 6) (xsAt T 7) (xsAt T 8) (gAt T 4) (gAt T 6) (gAt T 7) (gAt T 8) (owAt T 4) (owAt T 6) (owAt T 7) (capOf (vAt vs 1))
theorem gO36_64_ok : BlkOk eW64 f36 4 (.loop (roundOf 4 f36)) (blkS 9 [2,7,11,12] gO36_64) := blkS_ok fun vs T h => gO36_64c_ok h
noncomputable def orc36_64 : OrcL := [(2, blkGC 5 [0,1,2,3,4,5,6,17,9] [2,5,7,9,10] gA36_64), (4, blkS 9 [2,7,11,12] gO36_64)]
theorem orc36_64_ok : FnOrc eW64 f36 orc36_64 := FnOrc.cons gA36_64_ok (by kernel_rfl) (FnOrc.cons gO36_64_ok (by kernel_rfl) FnOrc.nil)
noncomputable def R36_64 (zs : List Int) (g4 off n : Nat) (cp : Option Nat) : Res := resG 5 [0, 1, 2, 3, 4, 9] (runF eW64 f36 orc36_64 1000 [.agg [.int .i64 64, .int .i64 128, .int .i64 80, .slice 1 0 0 0 3 (some 3), .slice 1 1 0 0 3 (some 3), .slice 1 2 0 0 3 (some 3), .slice 1 3 0 0 3 (some 3)], .slice 1 4 g4 off n cp] [some ⟨.ints .i64 [1, 8, 7], 0, false, 3⟩, some ⟨.ints .i64 [19, 61, 6], 0, false, 3⟩, some ⟨.ints .i64 [28, 34, 39], 0, false, 3⟩, some ⟨.ints .i64 [14, 18, 41], 0, false, 3⟩, some ⟨.ints .u8 zs, g4, false, 5⟩] [])
theorem R36_64_ok {zs : List Int} {g4 off n : Nat} {cp : Option Nat} (h : allP [.eqN g4 g4, .leN (off + n) zs.length, .leN n 140737488355000, .eqN (n + 1 + padLaw 128 (n + 1) + 16) (fillLaw 128 (subLaw zs off n)).length, .p (isCubesLaw [4794697086780616226, 8158064640168781261, 13096744586834688815, 16840607885511220156, 4131703408338449720, 6480981068601479193, 10538285296894168987,
 12329834152419229976, 15566598209576043074, 1334009975649890238, 2608012711638119052, 6128411473006802146, 8268148722764581231, 9286055187155687089, 11230858885718282805, 13951009754708518548, 16472876342353939154, 17275323862435702243, 1135362057144423861, 2597628984639134821, 3308224258029322869, 5365058923640841347, 6679025012923562964, 8573033837759648693, 10970295158949994411,
 12119686244451234320, 12683024718118986047, 13788192230050041572, 14330467153632333762, 15395433587784984357, 489312712824947311, 1452737877330783856, 2861767655752347644, 3322285676063803686, 5560940570517711597, 5996557281743188959, 7280758554555802590, 8532644243296465576, 9350256976987008742, 10552545826968843579, 11727347734174303076, 12113106623233404929, 14000437183269869457,
 14369950271660146224, 15101387698204529176, 15463397548674623760, 17586052441742319658, 1182934255886127544, 1847814050463011016, 2177327727835720531, 2830643537854262169, 3796741975233480872, 4115178125766777443, 5681478168544905931, 6601373596472566643, 7507060721942968483, 8399075790359081724, 8693463985226723168, 9568029438360202098, 10144078919501101548, 10430055236837252648,
 11840083180663258601, 13761210420658862357, 14299343276471374635, 14566680578165727644, 15097957966210449927, 16922976911328602910, 17689382322260857208, 500013540394364858, 748580250866718886, 1242879168328830382, 1977374033974150939, 2944078676154940804, 3659926193048069267, 4368137639120453308, 4836135668995329356, 5532061633213252278, 6448918945643986474, 6902733635092675308,
 7801388544844847127]), .eqN ((fillLaw 128 (subLaw zs off n)).length % 128) 0, .leN 1 (fillLaw 128 (subLaw zs off n)).length, .leN (fillLaw 128 (subLaw zs off n)).length 140737488355328, .p (BsLaw (fillLaw 128 (subLaw zs off n))), .p (WdsLaw 64 [7640891576956012808, 13503953896175478587, 4354685564936845355, 11912009170470909681, 5840696475078001361, 11170449401992604703, 2270897969802886507,
 6620516959819538809]), .eqN (stl64Law (fillLaw 128 (subLaw zs off n)) [7640891576956012808, 13503953896175478587, 4354685564936845355, 11912009170470909681, 5840696475078001361, 11170449401992604703, 2270897969802886507, 6620516959819538809]).length 8]) : OkR (R36_64 zs g4 off n cp) := OkR.dem (fl := bitsF 392
 315254376611790546380053958235182707860228557227515329200735770823137957719279333810317123054630908859391962330955775) (by kernel_rfl) (by kernel_rfl) (by kernel_rfl) h
theorem R36_64_val {zs : List Int} {g4 off n : Nat} {cp : Option Nat} : (R36_64 zs g4 off n cp).val = .slice 1 5 64 0 64 none := by kernel_rfl
theorem R36_64_tab {zs : List Int} {g4 off n : Nat} {cp : Option Nat} : (R36_64 zs g4 off n cp).tab = [some ⟨.ints .i64 [1, 8, 7], 0, false, 3⟩, some ⟨.ints .i64 [19, 61, 6], 0, false, 3⟩, some ⟨.ints .i64 [28, 34, 39], 0, false, 3⟩, some ⟨.ints .i64 [14, 18, 41], 0, false, 3⟩, some ⟨.ints .u8 zs, g4, false, 5⟩, some ⟨.ints .u8 (bysLaw 8 (stl64Law (fillLaw 128 (subLaw zs off n))
 [7640891576956012808, 13503953896175478587, 4354685564936845355, 11912009170470909681, 5840696475078001361, 11170449401992604703, 2270897969802886507, 6620516959819538809]) 8), 64, true, 5⟩] := by kernel_rfl
end Go.Abs

set_option linter.unusedVariables false
set_option linter.unusedSimpArgs false
set_option maxRecDepth 8000
set_option maxHeartbeats 4000000
namespace Go.Abs
open Go.Proofs Go.Proofs.Tryd
/-! ### the sums of both -/
/-! width 32 -/
theorem bys32_eq (xs : List Int) : bysLaw 4 (stl32Law (fillLaw 64 xs) [1779033703, 3144134277, 1013904242, 2773480762, 1359893119, 2600822924, 528734635, 1541459225]) 8 = sum32Law xs := rfl
noncomputable def sm36_32c (args : List AVal) (T : Tab) (zs : List Int) (g4 : Nat) (off : Nat) (n : Nat) (cp : Option Nat) : Res := ⟨[.tab T [some ⟨.ints .i64 [7, 18, 3], 0, false, 3⟩, some ⟨.ints .i64 [17, 19, 10], 0, false, 3⟩, some ⟨.ints .i64 [2, 13, 22], 0, false, 3⟩, some ⟨.ints .i64 [6, 11, 25], 0, false, 3⟩, some ⟨.ints .u8 zs, g4, false, 5⟩], .val (.tuple args) (.tuple [.agg [.int .i64 32, .int .i64 64, .int .i64 64, .slice 1 0 0 0 3 (some 3), .slice 1 1 0 0 3 (some 3), .slice 1 2 0 0 3 (some 3), .slice 1 3 0 0 3 (some 3)], .slice 1 4 g4 off n cp]), .leN (off + n) zs.length, .leN n 140737488355000, .p (BsLaw zs)], .slice 1 5 32 0 32 none, [some ⟨.ints .i64 [7, 18, 3], 0, false, 3⟩, some ⟨.ints .i64 [17, 19, 10], 0, false, 3⟩, some ⟨.ints .i64 [2, 13, 22], 0, false, 3⟩, some ⟨.ints .i64 [6, 11, 25], 0, false, 3⟩, some ⟨.ints .u8 zs, g4, false, 5⟩, some ⟨.ints .u8 (sum32Law (subLaw zs off n)), 32, true, 5⟩]⟩
theorem sm36_32c_ok {args : List AVal} {T : Tab} {zs : List Int} {g4 : Nat} {off : Nat} {n : Nat} {cp : Option Nat} (h : allP (sm36_32c args T zs g4 off n cp).cs) : Small prog glS 36 args T (sm36_32c args T zs g4 off n cp).val (sm36_32c args T zs g4 off n cp).tab := by
  obtain ⟨hT, hv, h1, h2, h3, _⟩ := h
  simp only [Con.h] at hT hv h1 h2 h3
  injection hv with hv
  subst hT hv
  refine small_ofG (R := R36_32 zs g4 off n cp) (keep := [0, 1, 2, 3, 4, 9]) eW32_ok hmS (f := 36) (fn := f36) (by kernel_rfl) (by kernel_rfl) orc36_32_ok rfl (R36_32_ok ?_) R36_32_val (by rw [R36_32_tab, bys32_eq]; rfl)
  have hl := subLaw_len h1
  have hf := fill_len 64 (subLaw zs off n)
  rw [hl] at hf
  have hq := pad64_le (n + 1)
  have hmod := fill64_mod (subLaw zs off n)
  have hb : BsLaw (fillLaw 64 (subLaw zs off n)) := fill_bs (h3.sub off n)
  have hws : WdsLaw 32 [1779033703, 3144134277, 1013904242, 2773480762, 1359893119, 2600822924, 528734635, 1541459225] := .cons ⟨by decide, by decide⟩ (.cons ⟨by decide, by decide⟩ (.cons ⟨by decide, by decide⟩ (.cons ⟨by decide, by decide⟩ (.cons ⟨by decide, by decide⟩ (.cons ⟨by decide, by decide⟩ (.cons ⟨by decide, by decide⟩ (.cons ⟨by decide, by decide⟩ (.nil 32))))))))
  have hc : isCubesLaw cubesLaw := rfl
  have hst : (stl32Law (fillLaw 64 (subLaw zs off n)) [1779033703, 3144134277, 1013904242, 2773480762, 1359893119, 2600822924, 528734635, 1541459225]).length = 8 := stsLaw32_len rfl _
  unfold cubesLaw at hc
  simp only [allP, Con.h, hb, hws, hc, hst, hmod, eq_self, true_and, and_true]
  omega
noncomputable def sm36_32 : Summary := fun args T => sm36_32c args T (xsAt T 4) (gAt T 4) (offOf (vAt args 1)) (lenOf (vAt args 1)) (capOf (vAt args 1))
theorem sm36_32_ok : SmOk prog glS 36 sm36_32 := fun args T h => sm36_32c_ok h
noncomputable def S36_32 : Summary := callR sm36_32 []
theorem S36_32_ok : SumOk prog glS 36 S36_32 := callR_ok sm36_32_ok []
noncomputable def S33c : Summary := callR sm33 []
theorem S33c_ok : SumOk prog glS 33 S33c := callR_ok sm33_ok []
noncomputable def S34 : Summary := sumI modeO (eS0 []) f34 [] 200 [] []
theorem S34_ok : SumOk prog glS 34 S34 := sumI_ok eS0_ok hmS (fn := f34) (by kernel_rfl) (by kernel_rfl) [] FnOrc.nil 200 [] []
noncomputable def S35 : Summary := sumI modeO (eS0 []) f35 [] 200 [] []
theorem S35_ok : SumOk prog glS 35 S35 := sumI_ok eS0_ok hmS (fn := f35) (by kernel_rfl) (by kernel_rfl) [] FnOrc.nil 200 [] []
noncomputable def eY32 : Env := eS0 [(34, S34), (33, S33c)]
theorem eY32_ok : EnvOk eY32 := envOf_ok tysS_ok (SumsOk.cons (fn := f34) S34_ok (by kernel_rfl) (by kernel_rfl) (by kernel_rfl) (SumsOk.cons (fn := f33) S33c_ok (by kernel_rfl) (by kernel_rfl) (by kernel_rfl) trivial))
noncomputable def eZ32 : Env := eS0 [(35, S35), (36, S36_32)]
theorem eZ32_ok : EnvOk eZ32 := envOf_ok tysS_ok (SumsOk.cons (fn := f35) S35_ok (by kernel_rfl) (by kernel_rfl) (by kernel_rfl) (SumsOk.cons (fn := f36) S36_32_ok (by kernel_rfl) (by kernel_rfl) (by kernel_rfl) trivial))
noncomputable def R13 (off n g : Nat) (zs : List Int) (cp : Option Nat) : Res := resG 1 [0, 1] (runF eY32 f13 [] 200 [.slice 1 0 g off n cp] [some ⟨.ints .u8 zs, g, false, 5⟩] [])
theorem R13_ok {off n g : Nat} {zs : List Int} {cp : Option Nat} (h : allP [.eqN g g, .p (isPl32Law [32, 64, 7, 18, 3, 17, 19, 10, 2, 13, 22, 6, 11, 25]), .eqN g g, .leN (off + n) zs.length, .p (BsLaw zs), .leN n 140737488355000, .p (capLaw n cp)]) : OkR (R13 off n g zs cp) := OkR.dem (fl := bitsF 49 4398046511103) (by kernel_rfl) (by kernel_rfl) (by kernel_rfl) h
theorem R13_val {off n g : Nat} {zs : List Int} {cp : Option Nat} : (R13 off n g zs cp).val = .slice 1 1 31 0 32 none := by kernel_rfl
theorem R13_tab {off n g : Nat} {zs : List Int} {cp : Option Nat} : (R13 off n g zs cp).tab = [some ⟨.ints .u8 zs, g, false, 5⟩, some ⟨.ints .u8 (sum32Law (subLaw zs off n)), 31, true, 5⟩] := by kernel_rfl
noncomputable def R14 (off n g : Nat) (zs : List Int) (cp : Option Nat) : Res := resG 1 [0, 6] (runF eZ32 f14 [] 200 [.slice 1 0 g off n cp] [some ⟨.ints .u8 zs, g, false, 5⟩] [])
theorem R14_ok {off n g : Nat} {zs : List Int} {cp : Option Nat} (h : allP [.eqN g g, .leN (off + n) zs.length, .leN n 140737488355000, .p (BsLaw zs)]) : OkR (R14 off n g zs cp) := OkR.dem (fl := bitsF 64 288230376151711743) (by kernel_rfl) (by kernel_rfl) (by kernel_rfl) h
theorem R14_val {off n g : Nat} {zs : List Int} {cp : Option Nat} : (R14 off n g zs cp).val = .slice 1 1 32 0 32 none := by kernel_rfl
theorem R14_tab {off n g : Nat} {zs : List Int} {cp : Option Nat} : (R14 off n g zs cp).tab = [some ⟨.ints .u8 zs, g, false, 5⟩, some ⟨.ints .u8 (sum32Law (subLaw zs off n)), 32, true, 5⟩] := by kernel_rfl
/-! width 64 -/
theorem bys64_eq (xs : List Int) : bysLaw 8 (stl64Law (fillLaw 128 xs) [7640891576956012808, 13503953896175478587, 4354685564936845355, 11912009170470909681, 5840696475078001361, 11170449401992604703, 2270897969802886507, 6620516959819538809]) 8 = sum64Law xs := rfl
noncomputable def sm36_64c (args : List AVal) (T : Tab) (zs : List Int) (g4 : Nat) (off : Nat) (n : Nat) (cp : Option Nat) : Res := ⟨[.tab T [some ⟨.ints .i64 [1, 8, 7], 0, false, 3⟩, some ⟨.ints .i64 [19, 61, 6], 0, false, 3⟩, some ⟨.ints .i64 [28, 34, 39], 0, false, 3⟩, some ⟨.ints .i64 [14, 18, 41], 0, false, 3⟩, some ⟨.ints .u8 zs, g4, false, 5⟩], .val (.tuple args) (.tuple [.agg [.int .i64 64, .int .i64 128, .int .i64 80, .slice 1 0 0 0 3 (some 3), .slice 1 1 0 0 3 (some 3), .slice 1 2 0 0 3 (some 3), .slice 1 3 0 0 3 (some 3)], .slice 1 4 g4 off n cp]), .leN (off + n) zs.length, .leN n 140737488355000, .p (BsLaw zs)], .slice 1 5 64 0 64 none, [some ⟨.ints .i64 [1, 8, 7], 0, false, 3⟩, some ⟨.ints .i64 [19, 61, 6], 0, false, 3⟩, some ⟨.ints .i64 [28, 34, 39], 0, false, 3⟩, some ⟨.ints .i64 [14, 18, 41], 0, false, 3⟩, some ⟨.ints .u8 zs, g4, false, 5⟩, some ⟨.ints .u8 (sum64Law (subLaw zs off n)), 64, true, 5⟩]⟩
theorem sm36_64c_ok {args : List AVal} {T : Tab} {zs : List Int} {g4 : Nat} {off : Nat} {n : Nat} {cp : Option Nat} (h : allP (sm36_64c args T zs g4 off n cp).cs) : Small prog glS 36 args T (sm36_64c args T zs g4 off n cp).val (sm36_64c args T zs g4 off n cp).tab := by
  obtain ⟨hT, hv, h1, h2, h3, _⟩ := h
  simp only [Con.h] at hT hv h1 h2 h3
  injection hv with hv
  subst hT hv
  refine small_ofG (R := R36_64 zs g4 off n cp) (keep := [0, 1, 2, 3, 4, 9]) eW64_ok hmS (f := 36) (fn := f36) (by kernel_rfl) (by kernel_rfl) orc36_64_ok rfl (R36_64_ok ?_) R36_64_val (by rw [R36_64_tab, bys64_eq]; rfl)
  have hl := subLaw_len h1
  have hf := fill_len 128 (subLaw zs off n)
  rw [hl] at hf
  have hq := pad128_le (n + 1)
  have hmod := fill128_mod (subLaw zs off n)
  have hb : BsLaw (fillLaw 128 (subLaw zs off n)) := fill_bs (h3.sub off n)
  have hws : WdsLaw 64 [7640891576956012808, 13503953896175478587, 4354685564936845355, 11912009170470909681, 5840696475078001361, 11170449401992604703, 2270897969802886507, 6620516959819538809] := .cons ⟨by decide, by decide⟩ (.cons ⟨by decide, by decide⟩ (.cons ⟨by decide, by decide⟩ (.cons ⟨by decide, by decide⟩ (.cons ⟨by decide, by decide⟩ (.cons ⟨by decide, by decide⟩ (.cons ⟨by decide, by decide⟩ (.cons ⟨by decide, by decide⟩ (.nil 64))))))))
  have hc : isCubesLaw cubesLaw := rfl
  have hst : (stl64Law (fillLaw 128 (subLaw zs off n)) [7640891576956012808, 13503953896175478587, 4354685564936845355, 11912009170470909681, 5840696475078001361, 11170449401992604703, 2270897969802886507, 6620516959819538809]).length = 8 := stsLaw64_len rfl _
  unfold cubesLaw at hc
  simp only [allP, Con.h, hb, hws, hc, hst, hmod, eq_self, true_and, and_true]
  omega
noncomputable def sm36_64 : Summary := fun args T => sm36_64c args T (xsAt T 4) (gAt T 4) (offOf (vAt args 1)) (lenOf (vAt args 1)) (capOf (vAt args 1))
theorem sm36_64_ok : SmOk prog glS 36 sm36_64 := fun args T h => sm36_64c_ok h
noncomputable def S36_64 : Summary := callR sm36_64 []
theorem S36_64_ok : SumOk prog glS 36 S36_64 := callR_ok sm36_64_ok []
noncomputable def S37c : Summary := callR sm37 []
theorem S37c_ok : SumOk prog glS 37 S37c := callR_ok sm37_ok []
noncomputable def S38 : Summary := sumI modeO (eS0 []) f38 [] 200 [] []
theorem S38_ok : SumOk prog glS 38 S38 := sumI_ok eS0_ok hmS (fn := f38) (by kernel_rfl) (by kernel_rfl) [] FnOrc.nil 200 [] []
noncomputable def S39 : Summary := sumI modeO (eS0 []) f39 [] 200 [] []
theorem S39_ok : SumOk prog glS 39 S39 := sumI_ok eS0_ok hmS (fn := f39) (by kernel_rfl) (by kernel_rfl) [] FnOrc.nil 200 [] []
noncomputable def eY64 : Env := eS0 [(38, S38), (37, S37c)]
theorem eY64_ok : EnvOk eY64 := envOf_ok tysS_ok (SumsOk.cons (fn := f38) S38_ok (by kernel_rfl) (by kernel_rfl) (by kernel_rfl) (SumsOk.cons (fn := f37) S37c_ok (by kernel_rfl) (by kernel_rfl) (by kernel_rfl) trivial))
noncomputable def eZ64 : Env := eS0 [(39, S39), (36, S36_64)]
theorem eZ64_ok : EnvOk eZ64 := envOf_ok tysS_ok (SumsOk.cons (fn := f39) S39_ok (by kernel_rfl) (by kernel_rfl) (by kernel_rfl) (SumsOk.cons (fn := f36) S36_64_ok (by kernel_rfl) (by kernel_rfl) (by kernel_rfl) trivial))
noncomputable def R17 (off n g : Nat) (zs : List Int) (cp : Option Nat) : Res := resG 1 [0, 1] (runF eY64 f17 [] 200 [.slice 1 0 g off n cp] [some ⟨.ints .u8 zs, g, false, 5⟩] [])
theorem R17_ok {off n g : Nat} {zs : List Int} {cp : Option Nat} (h : allP [.eqN g g, .p (isPl64Law [64, 80, 1, 8, 7, 19, 61, 6, 28, 34, 39, 14, 18, 41]), .eqN g g, .leN (off + n) zs.length, .p (BsLaw zs), .leN n 140737488355000, .p (capLaw n cp)]) : OkR (R17 off n g zs cp) := OkR.dem (fl := bitsF 49 4398046511103) (by kernel_rfl) (by kernel_rfl) (by kernel_rfl) h
theorem R17_val {off n g : Nat} {zs : List Int} {cp : Option Nat} : (R17 off n g zs cp).val = .slice 1 1 63 0 64 none := by kernel_rfl
theorem R17_tab {off n g : Nat} {zs : List Int} {cp : Option Nat} : (R17 off n g zs cp).tab = [some ⟨.ints .u8 zs, g, false, 5⟩, some ⟨.ints .u8 (sum64Law (subLaw zs off n)), 63, true, 5⟩] := by kernel_rfl
noncomputable def R18 (off n g : Nat) (zs : List Int) (cp : Option Nat) : Res := resG 1 [0, 6] (runF eZ64 f18 [] 200 [.slice 1 0 g off n cp] [some ⟨.ints .u8 zs, g, false, 5⟩] [])
theorem R18_ok {off n g : Nat} {zs : List Int} {cp : Option Nat} (h : allP [.eqN g g, .leN (off + n) zs.length, .leN n 140737488355000, .p (BsLaw zs)]) : OkR (R18 off n g zs cp) := OkR.dem (fl := bitsF 64 288230376151711743) (by kernel_rfl) (by kernel_rfl) (by kernel_rfl) h
theorem R18_val {off n g : Nat} {zs : List Int} {cp : Option Nat} : (R18 off n g zs cp).val = .slice 1 1 64 0 64 none := by kernel_rfl
theorem R18_tab {off n g : Nat} {zs : List Int} {cp : Option Nat} : (R18 off n g zs cp).tab = [some ⟨.ints .u8 zs, g, false, 5⟩, some ⟨.ints .u8 (sum64Law (subLaw zs off n)), 64, true, 5⟩] := by kernel_rfl
end Go.Abs

set_option linter.unusedVariables false
set_option linter.unusedSimpArgs false
set_option maxRecDepth 8000
set_option maxHeartbeats 4000000
namespace Go.Abs
open Go.Proofs Go.Proofs.Tryd
/-! ### the sums of both: contracts; the laws' helpers -/
theorem capLaw_none (n : Nat) : capLaw n none := fun c h => by cases h
theorem capLaw_some {n c : Nat} (h : n ≤ c) : capLaw n (some c) := fun k h2 => by injection h2 with h2; omega
noncomputable def sm13c (args : List AVal) (T : Tab) (zs : List Int) (g : Nat) (off : Nat) (n : Nat) (cp : Option Nat) : Res := ⟨[.tab T [some ⟨.ints .u8 zs, g, false, 5⟩], .val (.tuple args) (.tuple [.slice 1 0 g off n cp]), .leN (off + n) zs.length, .leN n 140737488355000, .p (BsLaw zs), .p (capLaw n cp)], .slice 1 1 31 0 32 none, [some ⟨.ints .u8 zs, g, false, 5⟩, some ⟨.ints .u8 (sum32Law (subLaw zs off n)), 31, true, 5⟩]⟩
theorem sm13c_ok {args : List AVal} {T : Tab} {zs : List Int} {g : Nat} {off : Nat} {n : Nat} {cp : Option Nat} (h : allP (sm13c args T zs g off n cp).cs) : Small prog glS 13 args T (sm13c args T zs g off n cp).val (sm13c args T zs g off n cp).tab := by
  obtain ⟨hT, hv, h1, h2, h3, h4, _⟩ := h
  simp only [Con.h] at hT hv h1 h2 h3 h4
  injection hv with hv
  subst hT hv
  refine small_ofG (R := R13 off n g zs cp) (keep := [0, 1]) eY32_ok hmS (f := 13) (fn := f13) (by kernel_rfl) (by kernel_rfl) FnOrc.nil rfl (R13_ok ?_) R13_val R13_tab
  have hp : isPl32Law [32, 64, 7, 18, 3, 17, 19, 10, 2, 13, 22, 6, 11, 25] := rfl
  simp only [allP, Con.h, hp, h1, h2, h3, h4, eq_self, true_and, and_true]
noncomputable def sm13 : Summary := fun args T => sm13c args T (xsAt T 0) (gAt T 0) (offOf (vAt args 0)) (lenOf (vAt args 0)) (capOf (vAt args 0))
theorem sm13_ok : SmOk prog glS 13 sm13 := fun args T h => sm13c_ok h
noncomputable def sm14c (args : List AVal) (T : Tab) (zs : List Int) (g : Nat) (off : Nat) (n : Nat) (cp : Option Nat) : Res := ⟨[.tab T [some ⟨.ints .u8 zs, g, false, 5⟩], .val (.tuple args) (.tuple [.slice 1 0 g off n cp]), .leN (off + n) zs.length, .leN n 140737488355000, .p (BsLaw zs)], .slice 1 1 32 0 32 none, [some ⟨.ints .u8 zs, g, false, 5⟩, some ⟨.ints .u8 (sum32Law (subLaw zs off n)), 32, true, 5⟩]⟩
theorem sm14c_ok {args : List AVal} {T : Tab} {zs : List Int} {g : Nat} {off : Nat} {n : Nat} {cp : Option Nat} (h : allP (sm14c args T zs g off n cp).cs) : Small prog glS 14 args T (sm14c args T zs g off n cp).val (sm14c args T zs g off n cp).tab := by
  obtain ⟨hT, hv, h1, h2, h3, _⟩ := h
  simp only [Con.h] at hT hv h1 h2 h3
  injection hv with hv
  subst hT hv
  refine small_ofG (R := R14 off n g zs cp) (keep := [0, 6]) eZ32_ok hmS (f := 14) (fn := f14) (by kernel_rfl) (by kernel_rfl) FnOrc.nil rfl (R14_ok ?_) R14_val R14_tab
  simp only [allP, Con.h, h1, h2, h3, eq_self, true_and, and_true]
noncomputable def sm14 : Summary := fun args T => sm14c args T (xsAt T 0) (gAt T 0) (offOf (vAt args 0)) (lenOf (vAt args 0)) (capOf (vAt args 0))
theorem sm14_ok : SmOk prog glS 14 sm14 := fun args T h => sm14c_ok h
noncomputable def S13 : Summary := callR sm13 []
theorem S13_ok : SumOk prog glS 13 S13 := callR_ok sm13_ok []
noncomputable def S14 : Summary := callR sm14 []
theorem S14_ok : SumOk prog glS 14 S14 := callR_ok sm14_ok []
noncomputable def sm17c (args : List AVal) (T : Tab) (zs : List Int) (g : Nat) (off : Nat) (n : Nat) (cp : Option Nat) : Res := ⟨[.tab T [some ⟨.ints .u8 zs, g, false, 5⟩], .val (.tuple args) (.tuple [.slice 1 0 g off n cp]), .leN (off + n) zs.length, .leN n 140737488355000, .p (BsLaw zs), .p (capLaw n cp)], .slice 1 1 63 0 64 none, [some ⟨.ints .u8 zs, g, false, 5⟩, some ⟨.ints .u8 (sum64Law (subLaw zs off n)), 63, true, 5⟩]⟩
theorem sm17c_ok {args : List AVal} {T : Tab} {zs : List Int} {g : Nat} {off : Nat} {n : Nat} {cp : Option Nat} (h : allP (sm17c args T zs g off n cp).cs) : Small prog glS 17 args T (sm17c args T zs g off n cp).val (sm17c args T zs g off n cp).tab := by
  obtain ⟨hT, hv, h1, h2, h3, h4, _⟩ := h
  simp only [Con.h] at hT hv h1 h2 h3 h4
  injection hv with hv
  subst hT hv
  refine small_ofG (R := R17 off n g zs cp) (keep := [0, 1]) eY64_ok hmS (f := 17) (fn := f17) (by kernel_rfl) (by kernel_rfl) FnOrc.nil rfl (R17_ok ?_) R17_val R17_tab
  have hp : isPl64Law [64, 80, 1, 8, 7, 19, 61, 6, 28, 34, 39, 14, 18, 41] := rfl
  simp only [allP, Con.h, hp, h1, h2, h3, h4, eq_self, true_and, and_true]
noncomputable def sm17 : Summary := fun args T => sm17c args T (xsAt T 0) (gAt T 0) (offOf (vAt args 0)) (lenOf (vAt args 0)) (capOf (vAt args 0))
theorem sm17_ok : SmOk prog glS 17 sm17 := fun args T h => sm17c_ok h
noncomputable def sm18c (args : List AVal) (T : Tab) (zs : List Int) (g : Nat) (off : Nat) (n : Nat) (cp : Option Nat) : Res := ⟨[.tab T [some ⟨.ints .u8 zs, g, false, 5⟩], .val (.tuple args) (.tuple [.slice 1 0 g off n cp]), .leN (off + n) zs.length, .leN n 140737488355000, .p (BsLaw zs)], .slice 1 1 64 0 64 none, [some ⟨.ints .u8 zs, g, false, 5⟩, some ⟨.ints .u8 (sum64Law (subLaw zs off n)), 64, true, 5⟩]⟩
theorem sm18c_ok {args : List AVal} {T : Tab} {zs : List Int} {g : Nat} {off : Nat} {n : Nat} {cp : Option Nat} (h : allP (sm18c args T zs g off n cp).cs) : Small prog glS 18 args T (sm18c args T zs g off n cp).val (sm18c args T zs g off n cp).tab := by
  obtain ⟨hT, hv, h1, h2, h3, _⟩ := h
  simp only [Con.h] at hT hv h1 h2 h3
  injection hv with hv
  subst hT hv
  refine small_ofG (R := R18 off n g zs cp) (keep := [0, 6]) eZ64_ok hmS (f := 18) (fn := f18) (by kernel_rfl) (by kernel_rfl) FnOrc.nil rfl (R18_ok ?_) R18_val R18_tab
  simp only [allP, Con.h, h1, h2, h3, eq_self, true_and, and_true]
noncomputable def sm18 : Summary := fun args T => sm18c args T (xsAt T 0) (gAt T 0) (offOf (vAt args 0)) (lenOf (vAt args 0)) (capOf (vAt args 0))
theorem sm18_ok : SmOk prog glS 18 sm18 := fun args T h => sm18c_ok h
noncomputable def S17 : Summary := callR sm17 []
theorem S17_ok : SumOk prog glS 17 S17 := callR_ok sm17_ok []
noncomputable def S18 : Summary := callR sm18 []
theorem S18_ok : SumOk prog glS 18 S18 := callR_ok sm18_ok []
noncomputable def R12 (zs : List Int) (g off n : Nat) (cp : Option Nat) (ow : Bool) : Res := runF (eS0 []) f12 [] 100 [.slice 1 0 g off n cp] [some ⟨.ints .u8 zs, g, ow, 5⟩] []
theorem R12_ok {zs : List Int} {g off n : Nat} {cp : Option Nat} {ow : Bool} (h : allP [.leN n 140737488355328, .eqN g g, .leN (off + n) zs.length, .leN (0 + n) ([] ++ List.take n (dropO off zs)).length, .leN (addO n 2) 140737488355328, .eqN g g, .leI 0 (↑n : Int), .leN 0 n, .orN n (addO n 2) (0 + n) (List.take n ([] ++ List.take n (dropO off zs)) ++ [201, 202]).length]) : OkR (R12 zs g off n cp
 ow) := OkR.dem (fl := bitsF 23 1286087) (by kernel_rfl) (by kernel_rfl) (by kernel_rfl) h
theorem R12_val {zs : List Int} {g off n : Nat} {cp : Option Nat} {ow : Bool} : (R12 zs g off n cp ow).val = .slice 1 1 2 0 n none := by kernel_rfl
theorem R12_tab {zs : List Int} {g off n : Nat} {cp : Option Nat} {ow : Bool} : (R12 zs g off n cp ow).tab = [some ⟨.ints .u8 zs, g, ow, 5⟩, some ⟨.ints .u8 (List.take n ([] ++ List.take n (dropO off zs)) ++ [201, 202]), 2, true, 5⟩, some ⟨.ints .u8 [201, 202], 0, true, 5⟩] := by kernel_rfl
noncomputable def R15 (xs zs : List Int) (g0 g1 n off : Nat) (cp : Option Nat) (o0 o1 : Bool) : Res := runF (eS0 []) f15 [] 200 [.slice 1 0 g0 0 n none, .slice 1 1 g1 off n cp] [some ⟨.ints .u8 xs, g0, o0, 5⟩, some ⟨.ints .u8 zs, g1, o1, 5⟩] [some true, some true, some true, some true, some true]
theorem R15_ok {xs zs : List Int} {g0 g1 n off : Nat} {cp : Option Nat} {o0 o1 : Bool} (h : allP [.eqN g1 g1, .rng (-9223372036854775808) ((↑n : Int) + 2) 9223372036854775807, .leI 0 ((↑n : Int) + 2), .eqN g0 g0, .leN 0 (n + 2), .orN (n + 2) n (0 + (n + 2)) xs.length, .eqN g1 g1, .leI 0 (↑n : Int), .eqN g0 g0, .leN 0 n, .orN n (n + 2) (0 + n) xs.length, .eqN g0 g0, .leN (0 + n) xs.length, .eqN g1
 g1, .leN (off + n) zs.length, .p ((List.map byteOf (List.take n xs) == List.map byteOf (List.take n (dropO off zs))) = true), .eqN g1 g1, .eqN g0 g0, .leI 0 (↑n : Int), .leI ((↑n : Int) + 1) (↑(n + 2) : Int), .eqN g0 g0, .leN (n + 1) xs.length, .p ((xs.getD n 0 == 201) = true), .eqN g1 g1, .rng (-9223372036854775808) ((↑n : Int) + 1) 9223372036854775807, .eqN g0 g0, .leI 0 ((↑n : Int) + 1), .leI
 ((↑n : Int) + 1 + 1) (↑(n + 2) : Int), .eqN g0 g0, .leN (n + 1 + 1) xs.length, .p ((xs.getD (n + 1) 0 == 202) = true)]) : OkR (R15 xs zs g0 g1 n off cp o0 o1) := OkR.dem (fl := bitsF 32 0) (by kernel_rfl) (by kernel_rfl) (by kernel_rfl) h
theorem R15_val {xs zs : List Int} {g0 g1 n off : Nat} {cp : Option Nat} {o0 o1 : Bool} : (R15 xs zs g0 g1 n off cp o0 o1).val = .bool true := by kernel_rfl
theorem R15_tab {xs zs : List Int} {g0 g1 n off : Nat} {cp : Option Nat} {o0 o1 : Bool} : (R15 xs zs g0 g1 n off cp o0 o1).tab = [some ⟨.ints .u8 xs, g0, o0, 5⟩, some ⟨.ints .u8 zs, g1, o1, 5⟩] := by kernel_rfl
noncomputable def eK0 : Env := eS0 [(13, S13), (17, S17)]
theorem eK0_ok : EnvOk eK0 := envOf_ok tysS_ok (SumsOk.cons (fn := f13) S13_ok (by kernel_rfl) (by kernel_rfl) (by kernel_rfl) (SumsOk.cons (fn := f17) S17_ok (by kernel_rfl) (by kernel_rfl) (by kernel_rfl) trivial))
noncomputable def R16  : Res := runF eK0 f16 [] 200 [] [] [some true, some true, some true, some true, some true, some true, some true]
theorem R16_ok  (h : allP [.p (BsLaw [97, 98, 99]), .p (capLaw 3 (some 3)), .p (BsLaw [97, 98, 99]), .p (capLaw 3 (some 3)), .p (true = true), .p (true = true), .p (true = true), .p (true = true)]) : OkR (R16 ) := OkR.dem (fl := bitsF 52 2234022138636287) (by kernel_rfl) (by kernel_rfl) (by kernel_rfl) h
theorem R16_val  : (R16 ).val = .bool true := by kernel_rfl
theorem R16_tab  : (R16 ).tab = [some ⟨.ints .u8 [97, 98, 99], 0, false, 5⟩, none, some ⟨.ints .u8 (sum32Law (subLaw [97, 98, 99] 0 3)), 31, true, 5⟩, some ⟨.ints .u8 [97, 98, 99], 0, false, 5⟩, none, some ⟨.ints .u8 (sum64Law (subLaw [97, 98, 99] 0 3)), 63, true, 5⟩] := by kernel_rfl
end Go.Abs

set_option linter.unusedVariables false
set_option linter.unusedSimpArgs false
set_option maxRecDepth 8000
set_option maxHeartbeats 4000000
namespace Go.Abs
open Go.Proofs Go.Proofs.Tryd
noncomputable def sm12c (args : List AVal) (T : Tab) (zs : List Int) (g : Nat) (off : Nat) (n : Nat) (cp : Option Nat) (ow : Bool) : Res := ⟨[.tab T [some ⟨.ints .u8 zs, g, ow, 5⟩], .val (.tuple args) (.tuple [.slice 1 0 g off n cp]), .leN (off + n) zs.length, .leN n 140737488355300], .slice 1 1 2 0 n none, [some ⟨.ints .u8 zs, g, ow, 5⟩, some ⟨.ints .u8 (subLaw zs off n ++ [201, 202]), 2, true, 5⟩]⟩
theorem sm12c_ok {args : List AVal} {T : Tab} {zs : List Int} {g : Nat} {off : Nat} {n : Nat} {cp : Option Nat} {ow : Bool} (h : allP (sm12c args T zs g off n cp ow).cs) : Small prog glS 12 args T (sm12c args T zs g off n cp ow).val (sm12c args T zs g off n cp ow).tab := by
  obtain ⟨hT, hv, h1, h2, _⟩ := h
  simp only [Con.h] at hT hv h1 h2
  injection hv with hv
  subst hT hv
  refine small_gc [0, 1] (small_of (R := R12 zs g off n cp ow) eS0_ok hmS (f := 12) (fn := f12) (by kernel_rfl) (by kernel_rfl) FnOrc.nil rfl (R12_ok ?_) R12_val R12_tab) rfl rfl rfl ?_
  · simp only [allP, Con.h, addO_eq, dropO_eq, List.nil_append, List.length_take, List.length_drop, List.length_append, List.length_cons, List.length_nil, eq_self, true_and, and_true]
    omega
  · have e : List.take n (subLaw zs off n) = subLaw zs off n := List.take_of_length_le (by rw [subLaw_len h1]; exact Nat.le_refl _)
    rw [dropO_eq, List.nil_append, show List.take n (List.take n (List.drop off zs)) = subLaw zs off n from e]
    rfl
noncomputable def sm12 : Summary := fun args T => sm12c args T (xsAt T 0) (gAt T 0) (offOf (vAt args 0)) (lenOf (vAt args 0)) (capOf (vAt args 0)) (owAt T 0)
theorem sm12_ok : SmOk prog glS 12 sm12 := fun args T h => sm12c_ok h
def lentLaw (xs ys : List Int) : Prop := xs = ys ++ [201, 202]
noncomputable def sm15c (args : List AVal) (T : Tab) (xs : List Int) (zs : List Int) (g0 : Nat) (g1 : Nat) (o0 : Bool) (o1 : Bool) (n : Nat) (off : Nat) (cp : Option Nat) (n1 : Nat) : Res := ⟨[.tab T [some ⟨.ints .u8 xs, g0, o0, 5⟩, some ⟨.ints .u8 zs, g1, o1, 5⟩], .val (.tuple args) (.tuple [.slice 1 0 g0 0 n none, .slice 1 1 g1 off n1 cp]), .eqN n1 n, .leN (off + n) zs.length, .leN n 140737488355300, .p (lentLaw xs (subLaw zs off n))], .bool true, [some ⟨.ints .u8 xs, g0, o0, 5⟩, some ⟨.ints .u8 zs, g1, o1, 5⟩]⟩
theorem sm15c_ok {args : List AVal} {T : Tab} {xs : List Int} {zs : List Int} {g0 : Nat} {g1 : Nat} {o0 : Bool} {o1 : Bool} {n : Nat} {off : Nat} {cp : Option Nat} {n1 : Nat} (h : allP (sm15c args T xs zs g0 g1 o0 o1 n off cp n1).cs) : Small prog glS 15 args T (sm15c args T xs zs g0 g1 o0 o1 n off cp n1).val (sm15c args T xs zs g0 g1 o0 o1 n off cp n1).tab := by
  obtain ⟨hT, hv, h1, h2, h3, h4, _⟩ := h
  simp only [Con.h] at hT hv h1 h2 h3 h4
  injection hv with hv
  subst hT hv
  subst h1
  have hl := subLaw_len h2
  have h4 : xs = subLaw zs off n1 ++ [201, 202] := h4
  subst h4
  refine small_of (R := R15 _ zs g0 g1 n1 off cp o0 o1) eS0_ok hmS (f := 15) (fn := f15) (by kernel_rfl) (by kernel_rfl) FnOrc.nil rfl (R15_ok ?_) R15_val R15_tab
  have e2 : List.take n1 (subLaw zs off n1 ++ [201, 202]) = subLaw zs off n1 := by rw [List.take_append_of_le_length (by omega), List.take_of_length_le (by omega)]
  have e5 : List.take n1 (List.drop off zs) = subLaw zs off n1 := rfl
  have e3 : (subLaw zs off n1 ++ [201, 202]).getD n1 0 = 201 := by
    rw [List.getD_eq_getElem?_getD, List.getElem?_append_right (by omega), hl]; simp
  have e4 : (subLaw zs off n1 ++ [201, 202]).getD (n1 + 1) 0 = 202 := by
    rw [List.getD_eq_getElem?_getD, List.getElem?_append_right (by omega), hl]; simp
  simp only [allP, Con.h, addO_eq, dropO_eq, e2, e3, e4, e5, hl, beq_self_eq_true, List.length_append, List.length_cons, List.length_nil, eq_self, true_and, and_true, Nat.zero_add]
  omega
noncomputable def sm15 : Summary := fun args T => sm15c args T (xsAt T 0) (xsAt T 1) (gAt T 0) (gAt T 1) (owAt T 0) (owAt T 1) (lenOf (vAt args 0)) (offOf (vAt args 1)) (capOf (vAt args 1)) (lenOf (vAt args 1))
theorem sm15_ok : SmOk prog glS 15 sm15 := fun args T h => sm15c_ok h
noncomputable def sm16 : Summary := fun args T => match args, T with
  | [], [] => ⟨[], .bool true, []⟩
  | _, _ => fail
theorem sm16_ok : SmOk prog glS 16 sm16 := by
  intro args T hc
  unfold sm16 at hc ⊢
  split at hc
  · refine small_drop (small_of (R := R16) eK0_ok hmS (f := 16) (fn := f16) (by kernel_rfl) (by kernel_rfl) FnOrc.nil rfl (R16_ok ?_) R16_val R16_tab)
    have hb : BsLaw [97, 98, 99] := .cons (by decide) (.cons (by decide) (.cons (by decide) .nil))
    have hc : capLaw 3 (some 3) := capLaw_some (Nat.le_refl 3)
    simp only [allP, Con.h, hb, hc, eq_self, true_and, and_true]
  · exact absurd hc nofail
noncomputable def S12 : Summary := callR sm12 []
theorem S12_ok : SumOk prog glS 12 S12 := callR_ok sm12_ok []
noncomputable def S15 : Summary := callR sm15 []
theorem S15_ok : SumOk prog glS 15 S15 := callR_ok sm15_ok []
noncomputable def S16 : Summary := callR sm16 []
theorem S16_ok : SumOk prog glS 16 S16 := callR_ok sm16_ok []
end Go.Abs

set_option linter.unusedVariables false
set_option linter.unusedSimpArgs false
set_option maxRecDepth 8000
set_option maxHeartbeats 4000000
namespace Go.Abs
open Go.Proofs Go.Proofs.Tryd
/-! ### no hash, and others -/
noncomputable def S19 : Summary := sumI modeO (eS0 []) f19 [] 200 [] []
theorem S19_ok : SumOk prog glS 19 S19 := sumI_ok eS0_ok hmS (fn := f19) (by kernel_rfl) (by kernel_rfl) [] FnOrc.nil 200 [] []
noncomputable def S20 : Summary := sumI modeO (eS0 []) f20 [] 200 [] []
theorem S20_ok : SumOk prog glS 20 S20 := sumI_ok eS0_ok hmS (fn := f20) (by kernel_rfl) (by kernel_rfl) [] FnOrc.nil 200 [] []
noncomputable def S21 : Summary := sumI modeO (eS0 []) f21 [] 200 [] []
theorem S21_ok : SumOk prog glS 21 S21 := sumI_ok eS0_ok hmS (fn := f21) (by kernel_rfl) (by kernel_rfl) [] FnOrc.nil 200 [] []
end Go.Abs

set_option linter.unusedVariables false
set_option linter.unusedSimpArgs false
set_option maxRecDepth 8000
namespace Go.Abs
open Go.Proofs Go.Proofs.Tryd
end Go.Abs

set_option linter.unusedVariables false
set_option linter.unusedSimpArgs false
set_option maxRecDepth 100000
set_option maxHeartbeats 4000000
namespace Go.Abs
open Go.Proofs Go.Proofs.Tryd
/-! ### ShaPieces: the loops over bytes -/
noncomputable def S12r : Summary := callR (rowS S12 0 5) []
theorem S12r_ok : SumOk prog glS 12 S12r := callR_ok (rowS_ok S12_ok 0 5) []
noncomputable def S15r : Summary := callR (rowS S15 1 5) []
theorem S15r_ok : SumOk prog glS 15 S15r := callR_ok (rowS_ok S15_ok 1 5) []
noncomputable def S22w : Summary := sumI modeO (eS0 []) f22 [] 200 [] [true, false, true]
theorem S22w_ok : SumOk prog glS 22 S22w := sumI_ok eS0_ok hmS (fn := f22) (by kernel_rfl) (by kernel_rfl) [] FnOrc.nil 200 [] [true, false, true]
noncomputable def eQ : Env := eS0 [(13, S13), (17, S17), (20, S20)]
theorem eQ_ok : EnvOk eQ := envOf_ok tysS_ok (SumsOk.cons (fn := f13) S13_ok (by kernel_rfl) (by kernel_rfl) (by kernel_rfl) (SumsOk.cons (fn := f17) S17_ok (by kernel_rfl) (by kernel_rfl) (by kernel_rfl) (SumsOk.cons (fn := f20) S20_ok (by kernel_rfl) (by kernel_rfl) (by kernel_rfl) trivial)))
noncomputable def S23w : Summary := sumI modeO eQ f23 [] 200 [] [false, false]
theorem S23w_ok : SumOk prog glS 23 S23w := sumI_ok eQ_ok hmS (fn := f23) (by kernel_rfl) (by kernel_rfl) [] FnOrc.nil 200 [] [false, false]
noncomputable def eP : Env := eS0 [(12, S12r), (14, S14), (15, S15r), (16, S16), (18, S18), (19, S19), (21, S21), (22, S22w), (23, S23w)]
theorem eP_ok : EnvOk eP := envOf_ok tysS_ok (SumsOk.cons (fn := f12) S12r_ok (by kernel_rfl) (by kernel_rfl) (by kernel_rfl) (SumsOk.cons (fn := f14) S14_ok (by kernel_rfl) (by kernel_rfl) (by kernel_rfl) (SumsOk.cons (fn := f15) S15r_ok (by kernel_rfl) (by kernel_rfl) (by kernel_rfl) (SumsOk.cons (fn := f16) S16_ok (by kernel_rfl) (by kernel_rfl) (by kernel_rfl) (SumsOk.cons (fn := f18) S18_ok (by kernel_rfl) (by kernel_rfl) (by kernel_rfl) (SumsOk.cons (fn := f19) S19_ok (by kernel_rfl) (by kernel_rfl) (by kernel_rfl) (SumsOk.cons (fn := f21) S21_ok (by kernel_rfl) (by kernel_rfl) (by kernel_rfl) (SumsOk.cons (fn := f22) S22w_ok (by kernel_rfl) (by kernel_rfl) (by kernel_rfl) (SumsOk.cons (fn := f23) S23w_ok (by kernel_rfl) (by kernel_rfl) (by kernel_rfl) trivial)))))))))
noncomputable def A6x (z hb ob al v : List Int) (Z : List (List Int)) (bits : Int) (gh go ga gv nh no na n : Nat) (lg : Bool) (c : Option Nat) (i k : Int) : Out := trim 8 8 [0,1,6,7,8,9,10,11] (run eP 101 ⟨8, []⟩ 400 (roundOf 2 f6) [(0, .bool lg), (1, .slice 1 0 0 0 (Z.length + 1) c), (6, .var 2 0), (7, .var 3 0), (8, .slice 1 6 ga 0 na none), (9, .int .i64 i), (10, .slice 1 7 gv 0 n none), (11, .int .i64 k)] [some ⟨.frows 1 0 (z :: Z) [], 0, false, 22⟩, some ⟨.fam (z :: Z), 0, false, 5⟩, some ⟨.agg [.int .i64 bits, .slice 1 4 gh 0 nh none], 0, true, 35⟩, some ⟨.agg [.int .i64 bits, .slice 1 5 go 0 no none], 0, true, 35⟩, some ⟨.ints .u8 hb, gh, true, 5⟩, some ⟨.ints .u8 ob, go, true, 5⟩, some ⟨.ints .u8 al, ga, true, 5⟩, some ⟨.ints .u8 v, gv, true, 5⟩] [some true])
theorem A6x_ok {z hb ob al v : List Int} {Z : List (List Int)} {bits : Int} {gh go ga gv nh no na n : Nat} {lg : Bool} {c : Option Nat} {i k : Int} (h : allP [.eqN gv gv, .p (decide (k < (↑n : Int)) = true), .eqN gv gv, .leI 0 k, .leI (k + 1) (↑n : Int), .eqN gv gv, .leN (k.toNat + 1) v.length, .eqN gv gv, .leI 0 k, .leI (k + 1) (↑n : Int), .eqN gv gv, .leN (k.toNat + 1) v.length, .rng
 (-9223372036854775808) (k + 1) 9223372036854775807]) : Ok (A6x z hb ob al v Z bits gh go ga gv nh no na n lg c i k) := Ok.dem (fl := bitsF 15 10240) (by kernel_rfl) (by kernel_rfl) (by kernel_rfl) h
theorem A6x_ex {z hb ob al v : List Int} {Z : List (List Int)} {bits : Int} {gh go ga gv nh no na n : Nat} {lg : Bool} {c : Option Nat} {i k : Int} : (A6x z hb ob al v Z bits gh go ga gv nh no na n lg c i k).ex = .normal := by kernel_rfl
theorem A6x_fm {z hb ob al v : List Int} {Z : List (List Int)} {bits : Int} {gh go ga gv nh no na n : Nat} {lg : Bool} {c : Option Nat} {i k : Int} : (A6x z hb ob al v Z bits gh go ga gv nh no na n lg c i k).fm = [(0, .bool lg), (1, .slice 1 0 0 0 (Z.length + 1) c), (6, .var 2 0), (7, .var 3 0), (8, .slice 1 6 ga 0 na none), (9, .int .i64 i), (10, .slice 1 7 gv 0 n none), (11, .int .i64 (k + 1))]
 := by kernel_rfl
theorem A6x_tab {z hb ob al v : List Int} {Z : List (List Int)} {bits : Int} {gh go ga gv nh no na n : Nat} {lg : Bool} {c : Option Nat} {i k : Int} : (A6x z hb ob al v Z bits gh go ga gv nh no na n lg c i k).tab = [some ⟨AVal.frows 1 0 (z :: Z) [], 0, false, 22⟩, some ⟨AVal.fam (z :: Z), 0, false, 5⟩, some ⟨.agg [.int .i64 bits, .slice 1 4 gh 0 nh none], 0, true, 35⟩, some ⟨.agg [.int .i64 bits,
 .slice 1 5 go 0 no none], 0, true, 35⟩, some ⟨.ints .u8 hb, gh, true, 5⟩, some ⟨.ints .u8 ob, go, true, 5⟩, some ⟨.ints .u8 al, ga, true, 5⟩, some ⟨.ints .u8 (v.set k.toNat ((v.getD k.toNat 0 + 1) % 256)), gv, true, 5⟩] := by kernel_rfl
noncomputable def D6x (z hb ob al v : List Int) (Z : List (List Int)) (bits : Int) (gh go ga gv nh no na n : Nat) (lg : Bool) (c : Option Nat) (i k : Int) : Out := trim 8 8 [0,1,6,7,8,9] (run eP 101 ⟨8, []⟩ 400 (roundOf 2 f6) [(0, .bool lg), (1, .slice 1 0 0 0 (Z.length + 1) c), (6, .var 2 0), (7, .var 3 0), (8, .slice 1 6 ga 0 na none), (9, .int .i64 i), (10, .slice 1 7 gv 0 n none), (11, .int .i64 k)] [some ⟨.frows 1 0 (z :: Z) [], 0, false, 22⟩, some ⟨.fam (z :: Z), 0, false, 5⟩, some ⟨.agg [.int .i64 bits, .slice 1 4 gh 0 nh none], 0, true, 35⟩, some ⟨.agg [.int .i64 bits, .slice 1 5 go 0 no none], 0, true, 35⟩, some ⟨.ints .u8 hb, gh, true, 5⟩, some ⟨.ints .u8 ob, go, true, 5⟩, some ⟨.ints .u8 al, ga, true, 5⟩, some ⟨.ints .u8 v, gv, true, 5⟩] [some false])
theorem D6x_ok {z hb ob al v : List Int} {Z : List (List Int)} {bits : Int} {gh go ga gv nh no na n : Nat} {lg : Bool} {c : Option Nat} {i k : Int} (h : allP [.eqN gv gv, .p (decide (k < (↑n : Int)) = false)]) : Ok (D6x z hb ob al v Z bits gh go ga gv nh no na n lg c i k) := Ok.dem (fl := [false, false]) (by kernel_rfl) (by kernel_rfl) (by kernel_rfl) h
theorem D6x_ex {z hb ob al v : List Int} {Z : List (List Int)} {bits : Int} {gh go ga gv nh no na n : Nat} {lg : Bool} {c : Option Nat} {i k : Int} : (D6x z hb ob al v Z bits gh go ga gv nh no na n lg c i k).ex = .exit 2 := by kernel_rfl
theorem D6x_fm {z hb ob al v : List Int} {Z : List (List Int)} {bits : Int} {gh go ga gv nh no na n : Nat} {lg : Bool} {c : Option Nat} {i k : Int} : (D6x z hb ob al v Z bits gh go ga gv nh no na n lg c i k).fm = [(0, .bool lg), (1, .slice 1 0 0 0 (Z.length + 1) c), (6, .var 2 0), (7, .var 3 0), (8, .slice 1 6 ga 0 na none), (9, .int .i64 i)] := by kernel_rfl
theorem D6x_tab {z hb ob al v : List Int} {Z : List (List Int)} {bits : Int} {gh go ga gv nh no na n : Nat} {lg : Bool} {c : Option Nat} {i k : Int} : (D6x z hb ob al v Z bits gh go ga gv nh no na n lg c i k).tab = [some ⟨AVal.frows 1 0 (z :: Z) [], 0, false, 22⟩, some ⟨AVal.fam (z :: Z), 0, false, 5⟩, some ⟨.agg [.int .i64 bits, .slice 1 4 gh 0 nh none], 0, true, 35⟩, some ⟨.agg [.int .i64 bits,
 .slice 1 5 go 0 no none], 0, true, 35⟩, some ⟨.ints .u8 hb, gh, true, 5⟩, some ⟨.ints .u8 ob, go, true, 5⟩, some ⟨.ints .u8 al, ga, true, 5⟩, some ⟨.ints .u8 v, gv, true, 5⟩] := by kernel_rfl
noncomputable def A6s (z hb ob al v : List Int) (Z : List (List Int)) (bits : Int) (gh go ga gv nh no na n : Nat) (lg : Bool) (c : Option Nat) (i k : Int) : Out := trim 8 8 [0,1,6,7,8,9,13,14] (run eP 101 ⟨8, []⟩ 400 (roundOf 4 f6) [(0, .bool lg), (1, .slice 1 0 0 0 (Z.length + 1) c), (6, .var 2 0), (7, .var 3 0), (8, .slice 1 6 ga 0 na none), (9, .int .i64 i), (13, .slice 1 7 gv 0 n none), (14, .int .i64 k)] [some ⟨.frows 1 0 (z :: Z) [], 0, false, 22⟩, some ⟨.fam (z :: Z), 0, false, 5⟩, some ⟨.agg [.int .i64 bits, .slice 1 4 gh 0 nh none], 0, true, 35⟩, some ⟨.agg [.int .i64 bits, .slice 1 5 go 0 no none], 0, true, 35⟩, some ⟨.ints .u8 hb, gh, true, 5⟩, some ⟨.ints .u8 ob, go, true, 5⟩, some ⟨.ints .u8 al, ga, true, 5⟩, some ⟨.ints .u8 v, gv, true, 5⟩] [some true])
theorem A6s_ok {z hb ob al v : List Int} {Z : List (List Int)} {bits : Int} {gh go ga gv nh no na n : Nat} {lg : Bool} {c : Option Nat} {i k : Int} (h : allP [.eqN gv gv, .p (decide (k < (↑n : Int)) = true), .eqN gv gv, .leI 0 k, .leI (k + 1) (↑n : Int), .eqN gv gv, .leN (k.toNat + 1) v.length, .rng (-9223372036854775808) (k + 1) 9223372036854775807]) : Ok (A6s z hb ob al v Z bits gh go ga gv nh no
 na n lg c i k) := Ok.dem (fl := [false, false, false, false, false, false, true, false, true, false]) (by kernel_rfl) (by kernel_rfl) (by kernel_rfl) h
theorem A6s_ex {z hb ob al v : List Int} {Z : List (List Int)} {bits : Int} {gh go ga gv nh no na n : Nat} {lg : Bool} {c : Option Nat} {i k : Int} : (A6s z hb ob al v Z bits gh go ga gv nh no na n lg c i k).ex = .normal := by kernel_rfl
theorem A6s_fm {z hb ob al v : List Int} {Z : List (List Int)} {bits : Int} {gh go ga gv nh no na n : Nat} {lg : Bool} {c : Option Nat} {i k : Int} : (A6s z hb ob al v Z bits gh go ga gv nh no na n lg c i k).fm = [(0, .bool lg), (1, .slice 1 0 0 0 (Z.length + 1) c), (6, .var 2 0), (7, .var 3 0), (8, .slice 1 6 ga 0 na none), (9, .int .i64 i), (13, .slice 1 7 gv 0 n none), (14, .int .i64 (k + 1))]
 := by kernel_rfl
theorem A6s_tab {z hb ob al v : List Int} {Z : List (List Int)} {bits : Int} {gh go ga gv nh no na n : Nat} {lg : Bool} {c : Option Nat} {i k : Int} : (A6s z hb ob al v Z bits gh go ga gv nh no na n lg c i k).tab = [some ⟨AVal.frows 1 0 (z :: Z) [], 0, false, 22⟩, some ⟨AVal.fam (z :: Z), 0, false, 5⟩, some ⟨.agg [.int .i64 bits, .slice 1 4 gh 0 nh none], 0, true, 35⟩, some ⟨.agg [.int .i64 bits,
 .slice 1 5 go 0 no none], 0, true, 35⟩, some ⟨.ints .u8 hb, gh, true, 5⟩, some ⟨.ints .u8 ob, go, true, 5⟩, some ⟨.ints .u8 al, ga, true, 5⟩, some ⟨.ints .u8 (v.set k.toNat 0), gv, true, 5⟩] := by kernel_rfl
noncomputable def D6s (z hb ob al v : List Int) (Z : List (List Int)) (bits : Int) (gh go ga gv nh no na n : Nat) (lg : Bool) (c : Option Nat) (i k : Int) : Out := trim 8 8 [0,1,6,7,8,9] (run eP 101 ⟨8, []⟩ 400 (roundOf 4 f6) [(0, .bool lg), (1, .slice 1 0 0 0 (Z.length + 1) c), (6, .var 2 0), (7, .var 3 0), (8, .slice 1 6 ga 0 na none), (9, .int .i64 i), (13, .slice 1 7 gv 0 n none), (14, .int .i64 k)] [some ⟨.frows 1 0 (z :: Z) [], 0, false, 22⟩, some ⟨.fam (z :: Z), 0, false, 5⟩, some ⟨.agg [.int .i64 bits, .slice 1 4 gh 0 nh none], 0, true, 35⟩, some ⟨.agg [.int .i64 bits, .slice 1 5 go 0 no none], 0, true, 35⟩, some ⟨.ints .u8 hb, gh, true, 5⟩, some ⟨.ints .u8 ob, go, true, 5⟩, some ⟨.ints .u8 al, ga, true, 5⟩, some ⟨.ints .u8 v, gv, true, 5⟩] [some false])
theorem D6s_ok {z hb ob al v : List Int} {Z : List (List Int)} {bits : Int} {gh go ga gv nh no na n : Nat} {lg : Bool} {c : Option Nat} {i k : Int} (h : allP [.eqN gv gv, .p (decide (k < (↑n : Int)) = false)]) : Ok (D6s z hb ob al v Z bits gh go ga gv nh no na n lg c i k) := Ok.dem (fl := [false, false]) (by kernel_rfl) (by kernel_rfl) (by kernel_rfl) h
theorem D6s_ex {z hb ob al v : List Int} {Z : List (List Int)} {bits : Int} {gh go ga gv nh no na n : Nat} {lg : Bool} {c : Option Nat} {i k : Int} : (D6s z hb ob al v Z bits gh go ga gv nh no na n lg c i k).ex = .exit 4 := by kernel_rfl
theorem D6s_fm {z hb ob al v : List Int} {Z : List (List Int)} {bits : Int} {gh go ga gv nh no na n : Nat} {lg : Bool} {c : Option Nat} {i k : Int} : (D6s z hb ob al v Z bits gh go ga gv nh no na n lg c i k).fm = [(0, .bool lg), (1, .slice 1 0 0 0 (Z.length + 1) c), (6, .var 2 0), (7, .var 3 0), (8, .slice 1 6 ga 0 na none), (9, .int .i64 i)] := by kernel_rfl
theorem D6s_tab {z hb ob al v : List Int} {Z : List (List Int)} {bits : Int} {gh go ga gv nh no na n : Nat} {lg : Bool} {c : Option Nat} {i k : Int} : (D6s z hb ob al v Z bits gh go ga gv nh no na n lg c i k).tab = [some ⟨AVal.frows 1 0 (z :: Z) [], 0, false, 22⟩, some ⟨AVal.fam (z :: Z), 0, false, 5⟩, some ⟨.agg [.int .i64 bits, .slice 1 4 gh 0 nh none], 0, true, 35⟩, some ⟨.agg [.int .i64 bits,
 .slice 1 5 go 0 no none], 0, true, 35⟩, some ⟨.ints .u8 hb, gh, true, 5⟩, some ⟨.ints .u8 ob, go, true, 5⟩, some ⟨.ints .u8 al, ga, true, 5⟩, some ⟨.ints .u8 v, gv, true, 5⟩] := by kernel_rfl
end Go.Abs
