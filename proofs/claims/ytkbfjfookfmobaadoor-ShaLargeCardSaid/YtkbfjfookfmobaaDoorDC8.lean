/- What functions of the given program come to, by the abstract machine: one text of a proof. -/
import Derived.Test.YtkbfjfookfmobaaDoorDC7
set_option linter.unusedVariables false
set_option linter.unusedSimpArgs false
set_option maxRecDepth 8000
set_option maxHeartbeats 4000000
namespace Go.Abs
open Go.Proofs Go.Proofs.Tryd
/-! ### the document's block: rounds -/
theorem ch32 {e g : Int} (he : Wd 32 e) (hg : Wd 32 g) : iand (18446744073709551615 - e) g = iand (4294967295 - e) g := by
  rw [Wd, show (2 : Int) ^ 32 = 4294967296 by decide] at he hg
  obtain ⟨n, rfl⟩ := Int.eq_ofNat_of_zero_le he.1
  obtain ⟨m, rfl⟩ := Int.eq_ofNat_of_zero_le hg.1
  unfold iand
  rw [Int.toNat_natCast]
  congr 1
  have hm : m % 2 ^ 32 = m := Nat.mod_eq_of_lt (by omega)
  have key : ∀ a : Nat, a &&& m = (a % 2 ^ 32) &&& m := fun a => by
    have h1 := Nat.and_mod_two_pow (a := a) (b := m) (n := 32)
    have h2 : a &&& m ≤ m := Nat.and_le_right
    rw [Nat.mod_eq_of_lt (a := a &&& m) (by omega), hm] at h1
    exact h1
  rw [key (18446744073709551615 - (n : Int)).toNat, key (4294967295 - (n : Int)).toNat]
  congr 1
  omega
theorem sum2_32 (a b : Int) : iand ((a + b) % 18446744073709551616) 4294967295 = (a + b) % 4294967296 := by rw [iand_mask (by omega)]; omega
theorem sum5_32 (a b c d e : Int) : iand (((((a + b) % 18446744073709551616 + c) % 18446744073709551616 + d) % 18446744073709551616 + e) % 18446744073709551616) 4294967295 = ((((a + b) % 4294967296 + c) % 4294967296 + d) % 4294967296 + e) % 4294967296 := by rw [iand_mask (by omega)]; omega
def isCubesLaw (kk : List Int) : Prop := kk = cubesLaw
theorem kk32 (t : Nat) : cubesLaw.getD t 0 / 4294967296 = cLaw 32 t := by
  unfold cLaw; rw [show (2 : Int) ^ (64 - 32) = 4294967296 by decide]
theorem kk64 (t : Nat) : cubesLaw.getD t 0 / 1 = cLaw 64 t := c64 t
theorem rnds_app {W : Nat} {m : Int} {u0 u1 a b x : List Int} : ∀ t, t ≤ a.length → rndsLaw W m u0 u1 (a ++ b) x t = rndsLaw W m u0 u1 a x t
  | 0, _ => rfl
  | t + 1, h => by
    unfold rndsLaw
    rw [rnds_app t (by omega), getD_left (by omega)]
def gxs (g : Nat) : Nat → Nat | 0 => g | _ + 1 => 0
def cxs (c : Option Nat) : Nat → Option Nat | 0 => c | _ + 1 => some 8
theorem gxs_pos (g : Nat) {n : Nat} (h : 0 < n) : gxs g n = 0 := by cases n with | zero => omega | succ n => rfl
/-! width 32 -/
def FX49_32 (g4 g5 gw gx : Nat) (cp ck cx : Option Nat) (t : Nat) : Fm := [(1, .slice 1 4 g4 0 8 cp), (2, .slice 1 5 g5 0 80 ck), (4, .var 7 0), (9, .slice 1 8 gw 0 64 none), (10, .slice 1 9 gx 0 8 cx), (11, .int .i64 t)]
def TX49_32 (ss kk zs ws : List Int) (g4 g5 g6 gw : Nat) (o4 o5 o6 ow : Bool) (gx : Nat) (xs : List Int) : Tab := [some ⟨.ints .i64 [7, 18, 3], 0, false, 3⟩, some ⟨.ints .i64 [17, 19, 10], 0, false, 3⟩, some ⟨.ints .i64 [2, 13, 22], 0, false, 3⟩, some ⟨.ints .i64 [6, 11, 25], 0, false, 3⟩, some ⟨.ints .u64 ss, g4, o4, 56⟩, some ⟨.ints .u64 kk, g5, o5, 56⟩, some ⟨.ints .u8 zs, g6, o6, 5⟩, some ⟨.agg [.int .i64 32, .int .i64 64, .int .i64 64, .slice 1 0 0 0 3 (some 3), .slice 1 1 0 0 3 (some 3), .slice 1 2 0 0 3 (some 3), .slice 1 3 0 0 3 (some 3)], 0, true, 54⟩, some ⟨.ints .u64 ws, gw, ow, 56⟩, some ⟨.ints .u64 xs, gx, true, 56⟩]
theorem rnd49_32 {kk ws : List Int} {t : Nat} {y0 y1 y2 y3 y4 y5 y6 y7 : Int} (hk : kk = cubesLaw) (hy : Wds 32 [y0, y1, y2, y3, y4, y5, y6, y7]) :
    [iand ((iand (((((y7 + highLaw 32 [6, 11, 25] y4) % 18446744073709551616 + ixor (iand y4 y5) (iand (18446744073709551615 - y4) y6)) % 18446744073709551616 + kk.getD t 0 / 4294967296) % 18446744073709551616 + ws.getD t 0) % 18446744073709551616) 4294967295 + iand ((highLaw 32 [2, 13, 22] y0 + ixor (ixor (iand y0 y1) (iand y0 y2)) (iand y1 y2)) % 18446744073709551616) 4294967295) % 18446744073709551616) 4294967295, y0, y1, y2, iand ((y3 + iand (((((y7 + highLaw 32 [6, 11, 25] y4) % 18446744073709551616 + ixor (iand y4 y5) (iand (18446744073709551615 - y4) y6)) % 18446744073709551616 + kk.getD t 0 / 4294967296) % 18446744073709551616 + ws.getD t 0) % 18446744073709551616) 4294967295) % 18446744073709551616) 4294967295, y4, y5, y6] = rndLaw 32 4294967296 [2, 13, 22] [6, 11, 25] (cLaw 32 t) (ws.getD t 0) [y0, y1, y2, y3, y4, y5, y6, y7] := by
  subst hk
  have hc : iand (18446744073709551615 - y4) y6 = iand (4294967295 - y4) y6 := ch32 (hy 4) (hy 6)
  rw [hc, kk32]
  simp only [sum5_32]
  simp only [sum2_32]
  rfl
theorem loopG49_32 {ss kk zs ws : List Int} {g4 g5 g6 gw : Nat} {cp ck : Option Nat} {o4 o5 o6 ow : Bool} {g0 : Nat} {c0 : Option Nat} {x0 : List Int} (hk : kk = cubesLaw) (hwl : ws.length = 64) (hww : Wds 32 ws) (hxl : x0.length = 8) (hx : Wds 32 x0) :
    To eT32 157 9 (.block 0 (.loop (roundOf 0 f49))) (FX49_32 g4 g5 gw g0 cp ck c0 0) (TX49_32 ss kk zs ws g4 g5 g6 gw o4 o5 o6 ow g0 x0) .normal [(1, .slice 1 4 g4 0 8 cp), (4, .var 7 0), (10, .slice 1 9 0 0 8 (some 8))] (TX49_32 ss kk zs ws g4 g5 g6 gw o4 o5 o6 ow 0 (rndsLaw 32 4294967296 [2, 13, 22] [6, 11, 25] ws x0 64)) := by
  refine To.rounds (fun i => FX49_32 g4 g5 gw (gxs g0 i) cp ck (cxs c0 i) i) (fun i => TX49_32 ss kk zs ws g4 g5 g6 gw o4 o5 o6 ow (gxs g0 i) (rndsLaw 32 4294967296 [2, 13, 22] [6, 11, 25] ws x0 i)) 64 (fun i hi => ?_)
    (To.of (o := H49_32 (64 : Nat) ss kk zs ws (rndsLaw 32 4294967296 [2, 13, 22] [6, 11, 25] ws x0 64) g4 g5 g6 gw 0 cp ck (some 8) o4 o5 o6 ow) eT32_ok hmS (Nat.le_refl 9) OrcOk.nil rfl (H49_32_ok (by simp [allP, Con.h])) H49_32_ex H49_32_fm H49_32_tab)
  have hrl := rnds_len (W := 32) (m := 4294967296) (u0 := [2, 13, 22]) (u1 := [6, 11, 25]) (ws := ws) hxl i
  have hrw := rnds_wds (W := 32) (m := 4294967296) (by decide) (u0 := [2, 13, 22]) (u1 := [6, 11, 25]) (ws := ws) hx i
  show To _ _ _ _ _ (TX49_32 ss kk zs ws g4 g5 g6 gw o4 o5 o6 ow (gxs g0 i) (rndsLaw 32 4294967296 [2, 13, 22] [6, 11, 25] ws x0 i)) _ _ (TX49_32 ss kk zs ws g4 g5 g6 gw o4 o5 o6 ow 0 (rndLaw 32 4294967296 [2, 13, 22] [6, 11, 25] (cLaw 32 i) (ws.getD i 0) (rndsLaw 32 4294967296 [2, 13, 22] [6, 11, 25] ws x0 i)))
  generalize rndsLaw 32 4294967296 [2, 13, 22] [6, 11, 25] ws x0 i = r at hrl hrw ⊢
  generalize gxs g0 i = gx
  generalize cxs c0 i = cx
  obtain ⟨y0, y1, y2, y3, y4, y5, y6, y7, rfl⟩ := list8 hrl
  have hkl : kk.length = 80 := by rw [hk]; kernel_rfl
  have b0 : Wd 32 y0 := hrw 0
  have c0 : Wd 64 y0 := b0.up
  have b1 : Wd 32 y1 := hrw 1
  have c1 : Wd 64 y1 := b1.up
  have b2 : Wd 32 y2 := hrw 2
  have c2 : Wd 64 y2 := b2.up
  have b3 : Wd 32 y3 := hrw 3
  have c3 : Wd 64 y3 := b3.up
  have b4 : Wd 32 y4 := hrw 4
  have c4 : Wd 64 y4 := b4.up
  have b5 : Wd 32 y5 := hrw 5
  have c5 : Wd 64 y5 := b5.up
  have b6 : Wd 32 y6 := hrw 6
  have c6 : Wd 64 y6 := b6.up
  have b7 : Wd 32 y7 := hrw 7
  have c7 : Wd 64 y7 := b7.up
  have hu : Wd 64 (18446744073709551615 - y4) := ⟨by have := c4.2; rw [show (2 : Int) ^ 64 = 18446744073709551616 by decide] at this; omega, by have := c4.1; rw [show (2 : Int) ^ 64 = 18446744073709551616 by decide]; omega⟩
  refine To.ofG (o := G49_32 i y0 y1 y2 y3 y4 y5 y6 y7 ss kk zs ws g4 g5 g6 gw gx cp ck cx o4 o5 o6 ow) eT32_ok hmS (Nat.le_refl 9) OrcOk.nil rfl (G49_32_ok ?_) G49_32_ex (by rw [G49_32_fm]; rfl) ?_
  · have hz' := zz32
    have i2 : highIxLaw 2 := .inl rfl
    have i3 : highIxLaw 3 := .inr rfl
    have kc : Wd 64 (kk.getD i 0) := by
      rw [hk]; have := cubes_rng i; exact ⟨this.1, by rw [show (2 : Int) ^ 64 = 18446744073709551616 by decide]; exact this.2⟩
    have wc : Wd 64 (ws.getD i 0) := (hww i).up
    have hd : ∀ (x d : Int), Wd 64 x → 0 < d → Wd 64 (x / d) := fun x d hx h => hx.divk h
    have hm : ∀ y : Int, Wd 64 (y % 18446744073709551616) := fun y => by have := Wd.mod 64 y; rwa [show (2 : Int) ^ 64 = 18446744073709551616 by decide] at this
    simp only [allP, Con.h, nn_64, Int.toNat_natCast, hz', i2, i3, hkl, hwl, hm, c0, c1, c2, c3, c4, c5, c6, c7, decide_eq_true_eq, eq_self, true_and, and_true]
    repeat' with_reducible apply And.intro
    all_goals first | omega | exact b0.1 | exact b0.2 | exact b4.1 | exact b4.2 | exact b0 | exact b4 | skip
    all_goals repeat' (first | exact c0 | exact c1 | exact c2 | exact c3 | exact c4 | exact c5 | exact c6 | exact c7 | exact hu | exact kc | exact wc | exact hm _ | apply Wd.ixor | apply Wd.iand | (refine hd _ _ ?_ (by decide)))
  · rw [G49_32_tab, Int.toNat_natCast, ← rnd49_32 hk hrw]
    rfl
/-! width 64 -/
def FX49_64 (g4 g5 gw gx : Nat) (cp ck cx : Option Nat) (t : Nat) : Fm := [(1, .slice 1 4 g4 0 8 cp), (2, .slice 1 5 g5 0 80 ck), (4, .var 7 0), (9, .slice 1 8 gw 0 80 none), (10, .slice 1 9 gx 0 8 cx), (11, .int .i64 t)]
def TX49_64 (ss kk zs ws : List Int) (g4 g5 g6 gw : Nat) (o4 o5 o6 ow : Bool) (gx : Nat) (xs : List Int) : Tab := [some ⟨.ints .i64 [1, 8, 7], 0, false, 3⟩, some ⟨.ints .i64 [19, 61, 6], 0, false, 3⟩, some ⟨.ints .i64 [28, 34, 39], 0, false, 3⟩, some ⟨.ints .i64 [14, 18, 41], 0, false, 3⟩, some ⟨.ints .u64 ss, g4, o4, 56⟩, some ⟨.ints .u64 kk, g5, o5, 56⟩, some ⟨.ints .u8 zs, g6, o6, 5⟩, some ⟨.agg [.int .i64 64, .int .i64 128, .int .i64 80, .slice 1 0 0 0 3 (some 3), .slice 1 1 0 0 3 (some 3), .slice 1 2 0 0 3 (some 3), .slice 1 3 0 0 3 (some 3)], 0, true, 54⟩, some ⟨.ints .u64 ws, gw, ow, 56⟩, some ⟨.ints .u64 xs, gx, true, 56⟩]
theorem rnd49_64 {kk ws : List Int} {t : Nat} {y0 y1 y2 y3 y4 y5 y6 y7 : Int} (hk : kk = cubesLaw) (hy : Wds 64 [y0, y1, y2, y3, y4, y5, y6, y7]) :
    [(((((y7 + highLaw 64 [14, 18, 41] y4) % 18446744073709551616 + ixor (iand y4 y5) (iand (18446744073709551615 - y4) y6)) % 18446744073709551616 + kk.getD t 0 / 1) % 18446744073709551616 + ws.getD t 0) % 18446744073709551616 + (highLaw 64 [28, 34, 39] y0 + ixor (ixor (iand y0 y1) (iand y0 y2)) (iand y1 y2)) % 18446744073709551616) % 18446744073709551616, y0, y1, y2, (y3 + ((((y7 + highLaw 64 [14, 18, 41] y4) % 18446744073709551616 + ixor (iand y4 y5) (iand (18446744073709551615 - y4) y6)) % 18446744073709551616 + kk.getD t 0 / 1) % 18446744073709551616 + ws.getD t 0) % 18446744073709551616) % 18446744073709551616, y4, y5, y6] = rndLaw 64 18446744073709551616 [28, 34, 39] [14, 18, 41] (cLaw 64 t) (ws.getD t 0) [y0, y1, y2, y3, y4, y5, y6, y7] := by
  subst hk
  rw [kk64]
  rfl
theorem loopG49_64 {ss kk zs ws : List Int} {g4 g5 g6 gw : Nat} {cp ck : Option Nat} {o4 o5 o6 ow : Bool} {g0 : Nat} {c0 : Option Nat} {x0 : List Int} (hk : kk = cubesLaw) (hwl : ws.length = 80) (hww : Wds 64 ws) (hxl : x0.length = 8) (hx : Wds 64 x0) :
    To eT64 157 9 (.block 0 (.loop (roundOf 0 f49))) (FX49_64 g4 g5 gw g0 cp ck c0 0) (TX49_64 ss kk zs ws g4 g5 g6 gw o4 o5 o6 ow g0 x0) .normal [(1, .slice 1 4 g4 0 8 cp), (4, .var 7 0), (10, .slice 1 9 0 0 8 (some 8))] (TX49_64 ss kk zs ws g4 g5 g6 gw o4 o5 o6 ow 0 (rndsLaw 64 18446744073709551616 [28, 34, 39] [14, 18, 41] ws x0 80)) := by
  refine To.rounds (fun i => FX49_64 g4 g5 gw (gxs g0 i) cp ck (cxs c0 i) i) (fun i => TX49_64 ss kk zs ws g4 g5 g6 gw o4 o5 o6 ow (gxs g0 i) (rndsLaw 64 18446744073709551616 [28, 34, 39] [14, 18, 41] ws x0 i)) 80 (fun i hi => ?_)
    (To.of (o := H49_64 (80 : Nat) ss kk zs ws (rndsLaw 64 18446744073709551616 [28, 34, 39] [14, 18, 41] ws x0 80) g4 g5 g6 gw 0 cp ck (some 8) o4 o5 o6 ow) eT64_ok hmS (Nat.le_refl 9) OrcOk.nil rfl (H49_64_ok (by simp [allP, Con.h])) H49_64_ex H49_64_fm H49_64_tab)
  have hrl := rnds_len (W := 64) (m := 18446744073709551616) (u0 := [28, 34, 39]) (u1 := [14, 18, 41]) (ws := ws) hxl i
  have hrw := rnds_wds (W := 64) (m := 18446744073709551616) (by decide) (u0 := [28, 34, 39]) (u1 := [14, 18, 41]) (ws := ws) hx i
  show To _ _ _ _ _ (TX49_64 ss kk zs ws g4 g5 g6 gw o4 o5 o6 ow (gxs g0 i) (rndsLaw 64 18446744073709551616 [28, 34, 39] [14, 18, 41] ws x0 i)) _ _ (TX49_64 ss kk zs ws g4 g5 g6 gw o4 o5 o6 ow 0 (rndLaw 64 18446744073709551616 [28, 34, 39] [14, 18, 41] (cLaw 64 i) (ws.getD i 0) (rndsLaw 64 18446744073709551616 [28, 34, 39] [14, 18, 41] ws x0 i)))
  generalize rndsLaw 64 18446744073709551616 [28, 34, 39] [14, 18, 41] ws x0 i = r at hrl hrw ⊢
  generalize gxs g0 i = gx
  generalize cxs c0 i = cx
  obtain ⟨y0, y1, y2, y3, y4, y5, y6, y7, rfl⟩ := list8 hrl
  have hkl : kk.length = 80 := by rw [hk]; kernel_rfl
  have b0 : Wd 64 y0 := hrw 0
  have c0 : Wd 64 y0 := b0
  have b1 : Wd 64 y1 := hrw 1
  have c1 : Wd 64 y1 := b1
  have b2 : Wd 64 y2 := hrw 2
  have c2 : Wd 64 y2 := b2
  have b3 : Wd 64 y3 := hrw 3
  have c3 : Wd 64 y3 := b3
  have b4 : Wd 64 y4 := hrw 4
  have c4 : Wd 64 y4 := b4
  have b5 : Wd 64 y5 := hrw 5
  have c5 : Wd 64 y5 := b5
  have b6 : Wd 64 y6 := hrw 6
  have c6 : Wd 64 y6 := b6
  have b7 : Wd 64 y7 := hrw 7
  have c7 : Wd 64 y7 := b7
  have hu : Wd 64 (18446744073709551615 - y4) := ⟨by have := c4.2; rw [show (2 : Int) ^ 64 = 18446744073709551616 by decide] at this; omega, by have := c4.1; rw [show (2 : Int) ^ 64 = 18446744073709551616 by decide]; omega⟩
  refine To.ofG (o := G49_64 i y0 y1 y2 y3 y4 y5 y6 y7 ss kk zs ws g4 g5 g6 gw gx cp ck cx o4 o5 o6 ow) eT64_ok hmS (Nat.le_refl 9) OrcOk.nil rfl (G49_64_ok ?_) G49_64_ex (by rw [G49_64_fm]; rfl) ?_
  · have hz' := zz64
    have i2 : highIxLaw 2 := .inl rfl
    have i3 : highIxLaw 3 := .inr rfl
    have kc : Wd 64 (kk.getD i 0) := by
      rw [hk]; have := cubes_rng i; exact ⟨this.1, by rw [show (2 : Int) ^ 64 = 18446744073709551616 by decide]; exact this.2⟩
    have wc : Wd 64 (ws.getD i 0) := hww i
    have hd : ∀ (x d : Int), Wd 64 x → 0 < d → Wd 64 (x / d) := fun x d hx h => hx.divk h
    have hm : ∀ y : Int, Wd 64 (y % 18446744073709551616) := fun y => by have := Wd.mod 64 y; rwa [show (2 : Int) ^ 64 = 18446744073709551616 by decide] at this
    simp only [allP, Con.h, nn_64, Int.toNat_natCast, hz', i2, i3, hkl, hwl, hm, c0, c1, c2, c3, c4, c5, c6, c7, decide_eq_true_eq, eq_self, true_and, and_true]
    repeat' with_reducible apply And.intro
    all_goals first | omega | exact b0.1 | exact b0.2 | exact b4.1 | exact b4.2 | exact b0 | exact b4 | skip
    all_goals repeat' (first | exact c0 | exact c1 | exact c2 | exact c3 | exact c4 | exact c5 | exact c6 | exact c7 | exact hu | exact kc | exact wc | exact hm _ | apply Wd.ixor | apply Wd.iand | (refine hd _ _ ?_ (by decide)))
  · rw [G49_64_tab, Int.toNat_natCast, ← rnd49_64 hk hrw]
    rfl
end Go.Abs
