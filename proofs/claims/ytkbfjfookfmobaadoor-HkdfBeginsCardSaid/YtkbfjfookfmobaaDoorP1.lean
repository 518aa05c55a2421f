/- What functions of the given program come to, by the abstract machine: texts of a proof. -/
import Derived.Test.YtkbfjfookfmobaaDoorP0
import Derived.Test.YtkbfjfookfmobaaDoorAbs2
set_option linter.unusedVariables false
set_option linter.unusedSimpArgs false
set_option maxRecDepth 8000
set_option maxHeartbeats 4000000
namespace Go.Abs
open Go.Proofs Go.Proofs.Tryd
/-! ### the document's block: rounds -/
theorem ch32 {e g : Int} (he : Wd 32 e) (hg : Wd 32 g) : iand (18446744073709551615 - e) g = iand (4294967295 - e) g := by
  rw [Wd, show (2 : Int) ^ 32 = 4294967296 by decide] at he hg
  obtain ⟨n, rfl⟩ := Int.eq_ofNat_of_zero_le he.1
  obtain ⟨m, rfl⟩ := Int.eq_ofNat_of_zero_le hg.1
  unfold iand
  rw [Int.toNat_natCast]
  congr 1
  have hm : m % 2 ^ 32 = m := Nat.mod_eq_of_lt (by omega)
  have key : ∀ a : Nat, a &&& m = (a % 2 ^ 32) &&& m := fun a => by
    have h1 := Nat.and_mod_two_pow (a := a) (b := m) (n := 32)
    have h2 : a &&& m ≤ m := Nat.and_le_right
    rw [Nat.mod_eq_of_lt (a := a &&& m) (by omega), hm] at h1
    exact h1
  rw [key (18446744073709551615 - (n : Int)).toNat, key (4294967295 - (n : Int)).toNat]
  congr 1
  omega
theorem sum2_32 (a b : Int) : iand ((a + b) % 18446744073709551616) 4294967295 = (a + b) % 4294967296 := by rw [iand_mask (by omega)]; omega
theorem sum5_32 (a b c d e : Int) : iand (((((a + b) % 18446744073709551616 + c) % 18446744073709551616 + d) % 18446744073709551616 + e) % 18446744073709551616) 4294967295 = ((((a + b) % 4294967296 + c) % 4294967296 + d) % 4294967296 + e) % 4294967296 := by rw [iand_mask (by omega)]; omega
def isCubesLaw (kk : List Int) : Prop := kk = cubesLaw
theorem kk32 (t : Nat) : cubesLaw.getD t 0 / 4294967296 = cLaw 32 t := by
  unfold cLaw; rw [show (2 : Int) ^ (64 - 32) = 4294967296 by decide]
theorem kk64 (t : Nat) : cubesLaw.getD t 0 / 1 = cLaw 64 t := c64 t
theorem rnds_app {W : Nat} {m : Int} {u0 u1 a b x : List Int} : ∀ t, t ≤ a.length → rndsLaw W m u0 u1 (a ++ b) x t = rndsLaw W m u0 u1 a x t
  | 0, _ => rfl
  | t + 1, h => by
    unfold rndsLaw
    rw [rnds_app t (by omega), getD_left (by omega)]
def gxs (g : Nat) : Nat → Nat | 0 => g | _ + 1 => 0
def cxs (c : Option Nat) : Nat → Option Nat | 0 => c | _ + 1 => some 8
theorem gxs_pos (g : Nat) {n : Nat} (h : 0 < n) : gxs g n = 0 := by cases n with | zero => omega | succ n => rfl
/-! width 32 -/
def FX49_32 (g4 g5 gw gx : Nat) (cp ck cx : Option Nat) (t : Nat) : Fm := [(1, .slice 1 4 g4 0 8 cp), (2, .slice 1 5 g5 0 80 ck), (4, .var 7 0), (9, .slice 1 8 gw 0 64 none), (10, .slice 1 9 gx 0 8 cx), (11, .int .i64 t)]
def TX49_32 (ss kk zs ws : List Int) (g4 g5 g6 gw : Nat) (o4 o5 o6 ow : Bool) (gx : Nat) (xs : List Int) : Tab := [some ⟨.ints .i64 [7, 18, 3], 0, false, 3⟩, some ⟨.ints .i64 [17, 19, 10], 0, false, 3⟩, some ⟨.ints .i64 [2, 13, 22], 0, false, 3⟩, some ⟨.ints .i64 [6, 11, 25], 0, false, 3⟩, some ⟨.ints .u64 ss, g4, o4, 56⟩, some ⟨.ints .u64 kk, g5, o5, 56⟩, some ⟨.ints .u8 zs, g6, o6, 5⟩, some ⟨.agg [.int .i64 32, .int .i64 64, .int .i64 64, .slice 1 0 0 0 3 (some 3), .slice 1 1 0 0 3 (some 3), .slice 1 2 0 0 3 (some 3), .slice 1 3 0 0 3 (some 3)], 0, true, 54⟩, some ⟨.ints .u64 ws, gw, ow, 56⟩, some ⟨.ints .u64 xs, gx, true, 56⟩]
theorem rnd49_32 {kk ws : List Int} {t : Nat} {y0 y1 y2 y3 y4 y5 y6 y7 : Int} (hk : kk = cubesLaw) (hy : Wds 32 [y0, y1, y2, y3, y4, y5, y6, y7]) :
    [iand ((iand (((((y7 + highLaw 32 [6, 11, 25] y4) % 18446744073709551616 + ixor (iand y4 y5) (iand (18446744073709551615 - y4) y6)) % 18446744073709551616 + kk.getD t 0 / 4294967296) % 18446744073709551616 + ws.getD t 0) % 18446744073709551616) 4294967295 + iand ((highLaw 32 [2, 13, 22] y0 + ixor (ixor (iand y0 y1) (iand y0 y2)) (iand y1 y2)) % 18446744073709551616) 4294967295) % 18446744073709551616) 4294967295, y0, y1, y2, iand ((y3 + iand (((((y7 + highLaw 32 [6, 11, 25] y4) % 18446744073709551616 + ixor (iand y4 y5) (iand (18446744073709551615 - y4) y6)) % 18446744073709551616 + kk.getD t 0 / 4294967296) % 18446744073709551616 + ws.getD t 0) % 18446744073709551616) 4294967295) % 18446744073709551616) 4294967295, y4, y5, y6] = rndLaw 32 4294967296 [2, 13, 22] [6, 11, 25] (cLaw 32 t) (ws.getD t 0) [y0, y1, y2, y3, y4, y5, y6, y7] := by
  subst hk
  have hc : iand (18446744073709551615 - y4) y6 = iand (4294967295 - y4) y6 := ch32 (hy 4) (hy 6)
  rw [hc, kk32]
  simp only [sum5_32]
  simp only [sum2_32]
  rfl
theorem loopG49_32 {ss kk zs ws : List Int} {g4 g5 g6 gw : Nat} {cp ck : Option Nat} {o4 o5 o6 ow : Bool} {g0 : Nat} {c0 : Option Nat} {x0 : List Int} (hk : kk = cubesLaw) (hwl : ws.length = 64) (hww : Wds 32 ws) (hxl : x0.length = 8) (hx : Wds 32 x0) :
    To eT32 157 9 (.block 0 (.loop (roundOf 0 f49))) (FX49_32 g4 g5 gw g0 cp ck c0 0) (TX49_32 ss kk zs ws g4 g5 g6 gw o4 o5 o6 ow g0 x0) .normal [(1, .slice 1 4 g4 0 8 cp), (4, .var 7 0), (10, .slice 1 9 0 0 8 (some 8))] (TX49_32 ss kk zs ws g4 g5 g6 gw o4 o5 o6 ow 0 (rndsLaw 32 4294967296 [2, 13, 22] [6, 11, 25] ws x0 64)) := by
  refine To.rounds (fun i => FX49_32 g4 g5 gw (gxs g0 i) cp ck (cxs c0 i) i) (fun i => TX49_32 ss kk zs ws g4 g5 g6 gw o4 o5 o6 ow (gxs g0 i) (rndsLaw 32 4294967296 [2, 13, 22] [6, 11, 25] ws x0 i)) 64 (fun i hi => ?_)
    (To.of (o := H49_32 (64 : Nat) ss kk zs ws (rndsLaw 32 4294967296 [2, 13, 22] [6, 11, 25] ws x0 64) g4 g5 g6 gw 0 cp ck (some 8) o4 o5 o6 ow) eT32_ok hmS (Nat.le_refl 9) OrcOk.nil rfl (H49_32_ok (by simp [allP, Con.h])) H49_32_ex H49_32_fm H49_32_tab)
  have hrl := rnds_len (W := 32) (m := 4294967296) (u0 := [2, 13, 22]) (u1 := [6, 11, 25]) (ws := ws) hxl i
  have hrw := rnds_wds (W := 32) (m := 4294967296) (by decide) (u0 := [2, 13, 22]) (u1 := [6, 11, 25]) (ws := ws) hx i
  show To _ _ _ _ _ (TX49_32 ss kk zs ws g4 g5 g6 gw o4 o5 o6 ow (gxs g0 i) (rndsLaw 32 4294967296 [2, 13, 22] [6, 11, 25] ws x0 i)) _ _ (TX49_32 ss kk zs ws g4 g5 g6 gw o4 o5 o6 ow 0 (rndLaw 32 4294967296 [2, 13, 22] [6, 11, 25] (cLaw 32 i) (ws.getD i 0) (rndsLaw 32 4294967296 [2, 13, 22] [6, 11, 25] ws x0 i)))
  generalize rndsLaw 32 4294967296 [2, 13, 22] [6, 11, 25] ws x0 i = r at hrl hrw ⊢
  generalize gxs g0 i = gx
  generalize cxs c0 i = cx
  obtain ⟨y0, y1, y2, y3, y4, y5, y6, y7, rfl⟩ := list8 hrl
  have hkl : kk.length = 80 := by rw [hk]; kernel_rfl
  have b0 : Wd 32 y0 := hrw 0
  have c0 : Wd 64 y0 := b0.up
  have b1 : Wd 32 y1 := hrw 1
  have c1 : Wd 64 y1 := b1.up
  have b2 : Wd 32 y2 := hrw 2
  have c2 : Wd 64 y2 := b2.up
  have b3 : Wd 32 y3 := hrw 3
  have c3 : Wd 64 y3 := b3.up
  have b4 : Wd 32 y4 := hrw 4
  have c4 : Wd 64 y4 := b4.up
  have b5 : Wd 32 y5 := hrw 5
  have c5 : Wd 64 y5 := b5.up
  have b6 : Wd 32 y6 := hrw 6
  have c6 : Wd 64 y6 := b6.up
  have b7 : Wd 32 y7 := hrw 7
  have c7 : Wd 64 y7 := b7.up
  have hu : Wd 64 (18446744073709551615 - y4) := ⟨by have := c4.2; rw [show (2 : Int) ^ 64 = 18446744073709551616 by decide] at this; omega, by have := c4.1; rw [show (2 : Int) ^ 64 = 18446744073709551616 by decide]; omega⟩
  refine To.ofG (o := G49_32 i y0 y1 y2 y3 y4 y5 y6 y7 ss kk zs ws g4 g5 g6 gw gx cp ck cx o4 o5 o6 ow) eT32_ok hmS (Nat.le_refl 9) OrcOk.nil rfl (G49_32_ok ?_) G49_32_ex (by rw [G49_32_fm]; rfl) ?_
  · have hz' := zz32
    have i2 : highIxLaw 2 := .inl rfl
    have i3 : highIxLaw 3 := .inr rfl
    have kc : Wd 64 (kk.getD i 0) := by
      rw [hk]; have := cubes_rng i; exact ⟨this.1, by rw [show (2 : Int) ^ 64 = 18446744073709551616 by decide]; exact this.2⟩
    have wc : Wd 64 (ws.getD i 0) := (hww i).up
    have hd : ∀ (x d : Int), Wd 64 x → 0 < d → Wd 64 (x / d) := fun x d hx h => hx.divk h
    have hm : ∀ y : Int, Wd 64 (y % 18446744073709551616) := fun y => by have := Wd.mod 64 y; rwa [show (2 : Int) ^ 64 = 18446744073709551616 by decide] at this
    simp only [allP, Con.h, nn_64, Int.toNat_natCast, hz', i2, i3, hkl, hwl, hm, c0, c1, c2, c3, c4, c5, c6, c7, decide_eq_true_eq, eq_self, true_and, and_true]
    repeat' with_reducible apply And.intro
    all_goals first | omega | exact b0.1 | exact b0.2 | exact b4.1 | exact b4.2 | exact b0 | exact b4 | skip
    all_goals repeat' (first | exact c0 | exact c1 | exact c2 | exact c3 | exact c4 | exact c5 | exact c6 | exact c7 | exact hu | exact kc | exact wc | exact hm _ | apply Wd.ixor | apply Wd.iand | (refine hd _ _ ?_ (by decide)))
  · rw [G49_32_tab, Int.toNat_natCast, ← rnd49_32 hk hrw]
    rfl
end Go.Abs

set_option linter.unusedVariables false
set_option linter.unusedSimpArgs false
set_option maxRecDepth 8000
set_option maxHeartbeats 4000000
namespace Go.Abs
open Go.Proofs Go.Proofs.Tryd
/-! ### the document's block -/
def mixLaw (f g : Nat → Int) (i : Nat) : List Int := (List.range 8).map fun j => if j < i then f j else g j
theorem mix_len (f g : Nat → Int) (i : Nat) : (mixLaw f g i).length = 8 := by simp [mixLaw]
theorem mix_set (f g : Nat → Int) {i : Nat} (hi : i < 8) : (mixLaw f g i).set i (f i) = mixLaw f g (i + 1) := by
  match i, hi with
  | 0, _ => rfl
  | 1, _ => rfl
  | 2, _ => rfl
  | 3, _ => rfl
  | 4, _ => rfl
  | 5, _ => rfl
  | 6, _ => rfl
  | 7, _ => rfl
theorem mix_get (f g : Nat → Int) {i : Nat} (hi : i < 8) : (mixLaw f g i).getD i 0 = g i := by
  match i, hi with
  | 0, _ => rfl
  | 1, _ => rfl
  | 2, _ => rfl
  | 3, _ => rfl
  | 4, _ => rfl
  | 5, _ => rfl
  | 6, _ => rfl
  | 7, _ => rfl
theorem mix_zero (f : Nat → Int) {l : List Int} (h : l.length = 8) : mixLaw f (fun j => l.getD j 0) 0 = l := by
  obtain ⟨a0, a1, a2, a3, a4, a5, a6, a7, rfl⟩ := list8 h
  rfl
/-! width 32 -/
def addx32Law (ss xs : List Int) : List Int := mixLaw (fun j => (ss.getD j 0 + xs.getD j 0) % 4294967296) (fun j => xs.getD j 0) 8
def rndx32Law (ws xs : List Int) : List Int := rndsLaw 32 4294967296 [2, 13, 22] [6, 11, 25] ws xs 64
def TX32 (ss kk zs ws xs : List Int) (g4 g5 g6 gw gx : Nat) (o4 o5 o6 ow : Bool) : Tab := [some ⟨.ints .i64 [7, 18, 3], 0, false, 3⟩, some ⟨.ints .i64 [17, 19, 10], 0, false, 3⟩, some ⟨.ints .i64 [2, 13, 22], 0, false, 3⟩, some ⟨.ints .i64 [6, 11, 25], 0, false, 3⟩, some ⟨.ints .u64 ss, g4, o4, 56⟩, some ⟨.ints .u64 kk, g5, o5, 56⟩, some ⟨.ints .u8 zs, g6, o6, 5⟩, some ⟨.agg [.int .i64 32, .int .i64 64, .int .i64 64, .slice 1 0 0 0 3 (some 3), .slice 1 1 0 0 3 (some 3), .slice 1 2 0 0 3 (some 3), .slice 1 3 0 0 3 (some 3)], 0, true, 54⟩, some ⟨.ints .u64 ws, gw, ow, 56⟩, some ⟨.ints .u64 xs, gx, true, 56⟩]
noncomputable def gG49_32c (vs : List AVal) (T : Tab) (ss : List Int) (kk : List Int) (zs : List Int) (ws : List Int) (xs : List Int) (g4 : Nat) (g5 : Nat) (g6 : Nat) (gw : Nat) (gx : Nat) (o4 : Bool) (o5 : Bool) (o6 : Bool) (ow : Bool) (cp : Option Nat) (ck : Option Nat) (cx : Option Nat) : Out := ⟨[.tab T (TX32 ss kk zs ws xs g4 g5 g6 gw gx o4 o5 o6 ow), .val (.tuple vs) (.tuple [.slice 1 4 g4 0 8 cp, .slice 1 5 g5 0 80 ck, .var 7 0, .slice 1 8 gw 0 64 none, .slice 1 9 gx 0 8 cx, .int .i64 0]), .p (isCubesLaw kk), .eqN ws.length 64, .p (WdsLaw 32 ws), .eqN xs.length 8, .p (WdsLaw 32 xs)], .normal, [(1, .slice 1 4 g4 0 8 cp), (4, .var 7 0), (10, .slice 1 9 0 0 8 (some 8))], TX32 ss kk zs ws (rndx32Law ws xs) g4 g5 g6 gw 0 o4 o5 o6 ow, []⟩
theorem gG49_32c_ok {vs : List AVal} {T : Tab} {ss : List Int} {kk : List Int} {zs : List Int} {ws : List Int} {xs : List Int} {g4 : Nat} {g5 : Nat} {g6 : Nat} {gw : Nat} {gx : Nat} {o4 : Bool} {o5 : Bool} {o6 : Bool} {ow : Bool} {cp : Option Nat} {ck : Option Nat} {cx : Option Nat} (h : Ok (gG49_32c vs T ss kk zs ws xs g4 g5 g6 gw gx o4 o5 o6 ow cp ck cx)) : To eT32 157 9 (.block 0 (.loop (roundOf 0 f49))) (zipF [1,2,4,9,10,11] vs) T (gG49_32c vs T ss kk zs ws xs g4 g5 g6 gw gx o4 o5 o6 ow cp ck cx).ex (gG49_32c vs T ss kk zs ws xs g4 g5 g6 gw gx o4 o5 o6 ow cp ck cx).fm (gG49_32c vs T ss kk zs ws xs g4 g5 g6 gw gx o4 o5 o6 ow cp ck cx).tab := by
  obtain ⟨hT, hv, h1, h2, h3, h4, h5, _⟩ := h.h
  simp only [Con.h] at hT hv h1 h2 h3 h4 h5
  injection hv with hv
  subst hT hv
  exact loopG49_32 h1 h2 h3 h4 h5
noncomputable def gG49_32 : List AVal → Tab → Out := fun vs T => gG49_32c vs T (xsAt T 4) (xsAt T 5) (xsAt T 6) (xsAt T 8) (xsAt T 9) (gAt T 4) (gAt T 5) (gAt T 6) (gAt T 8) (gAt T 9) (owAt T 4) (owAt T 5) (owAt T 6) (owAt T 8) (capOf (vAt vs 0)) (capOf (vAt vs 1)) (capOf (vAt vs 4))
theorem gG49_32_ok : BlkOk eT32 f49 0 (.loop (roundOf 0 f49)) (blkS2 9 10 [1,2,4,9,10,11] gG49_32) := blkS2_ok fun vs T h => gG49_32c_ok h
def FI49_32 (g4 gx : Nat) (cp cx : Option Nat) (i : Nat) : Fm := [(1, .slice 1 4 g4 0 8 cp), (4, .var 7 0), (10, .slice 1 9 gx 0 8 cx), (15, .int .i64 i)]
theorem loopI49_32 {ss kk zs ws : List Int} {g4 g5 g6 gw : Nat} {cp : Option Nat} {o4 o5 o6 ow : Bool} {gx : Nat} {cx : Option Nat} {xs : List Int} (hsl : ss.length = 8) (hxl : xs.length = 8) :
    To eT32 157 10 (.block 2 (.loop (roundOf 2 f49))) (FI49_32 g4 gx cp cx 0) (TX49_32 ss kk zs ws g4 g5 g6 gw o4 o5 o6 ow gx xs) .normal [(10, .slice 1 9 gx 0 8 cx)] (TX49_32 ss kk zs ws g4 g5 g6 gw o4 o5 o6 ow gx (mixLaw (fun j => (ss.getD j 0 + xs.getD j 0) % 4294967296) (fun j => xs.getD j 0) 8)) := by
  refine To.start (T0 := TX49_32 ss kk zs ws g4 g5 g6 gw o4 o5 o6 ow gx (mixLaw (fun j => (ss.getD j 0 + xs.getD j 0) % 4294967296) (fun j => xs.getD j 0) 0)) (by rw [mix_zero _ hxl]) ?_
  refine To.rounds (FI49_32 g4 gx cp cx) (fun i => TX49_32 ss kk zs ws g4 g5 g6 gw o4 o5 o6 ow gx (mixLaw (fun j => (ss.getD j 0 + xs.getD j 0) % 4294967296) (fun j => xs.getD j 0) i)) 8 (fun i hi => ?_)
    (To.of (o := J49_32 (8 : Nat) ss kk zs ws (mixLaw (fun j => (ss.getD j 0 + xs.getD j 0) % 4294967296) (fun j => xs.getD j 0) 8) g4 g5 g6 gw gx cp none cx o4 o5 o6 ow) eT32_ok hmS (Nat.le_refl 10) OrcOk.nil rfl (J49_32_ok (by simp [allP, Con.h])) J49_32_ex J49_32_fm J49_32_tab)
  have hl := mix_len (fun j => (ss.getD j 0 + xs.getD j 0) % 4294967296) (fun j => xs.getD j 0) i
  have hg := mix_get (fun j => (ss.getD j 0 + xs.getD j 0) % 4294967296) (fun j => xs.getD j 0) hi
  refine To.of (o := I49_32 i ss kk zs ws (mixLaw (fun j => (ss.getD j 0 + xs.getD j 0) % 4294967296) (fun j => xs.getD j 0) i) g4 g5 g6 gw gx cp none cx o4 o5 o6 ow) eT32_ok hmS (Nat.le_refl 10) OrcOk.nil rfl (I49_32_ok ?_) I49_32_ex (by rw [I49_32_fm]; rfl) ?_
  · have hm : ∀ y : Int, Wd 64 (y % 18446744073709551616) := fun y => by have := Wd.mod 64 y; rwa [show (2 : Int) ^ 64 = 18446744073709551616 by decide] at this
    simp only [allP, Con.h, nn_64, Int.toNat_natCast, hl, hsl, hg, hm, decide_eq_true_eq, eq_self, true_and, and_true]
    omega
  · rw [I49_32_tab, Int.toNat_natCast, hg, sum2_32, Int.add_comm (xs.getD i 0)]
    show TX49_32 ss kk zs ws g4 g5 g6 gw o4 o5 o6 ow gx ((mixLaw (fun j => (ss.getD j 0 + xs.getD j 0) % 4294967296) (fun j => xs.getD j 0) i).set i ((fun j => (ss.getD j 0 + xs.getD j 0) % 4294967296) i)) = _
    rw [mix_set _ _ hi]
noncomputable def gI49_32c (vs : List AVal) (T : Tab) (ss : List Int) (kk : List Int) (zs : List Int) (ws : List Int) (xs : List Int) (g4 : Nat) (g5 : Nat) (g6 : Nat) (gw : Nat) (gx : Nat) (o4 : Bool) (o5 : Bool) (o6 : Bool) (ow : Bool) (cp : Option Nat) (cx : Option Nat) : Out := ⟨[.tab T (TX32 ss kk zs ws xs g4 g5 g6 gw gx o4 o5 o6 ow), .val (.tuple vs) (.tuple [.slice 1 4 g4 0 8 cp, .var 7 0, .slice 1 9 gx 0 8 cx, .int .i64 0]), .eqN ss.length 8, .eqN xs.length 8], .normal, [(10, .slice 1 9 gx 0 8 cx)], TX32 ss kk zs ws (addx32Law ss xs) g4 g5 g6 gw gx o4 o5 o6 ow, []⟩
theorem gI49_32c_ok {vs : List AVal} {T : Tab} {ss : List Int} {kk : List Int} {zs : List Int} {ws : List Int} {xs : List Int} {g4 : Nat} {g5 : Nat} {g6 : Nat} {gw : Nat} {gx : Nat} {o4 : Bool} {o5 : Bool} {o6 : Bool} {ow : Bool} {cp : Option Nat} {cx : Option Nat} (h : Ok (gI49_32c vs T ss kk zs ws xs g4 g5 g6 gw gx o4 o5 o6 ow cp cx)) : To eT32 157 10 (.block 2 (.loop (roundOf 2 f49))) (zipF [1,4,10,15] vs) T (gI49_32c vs T ss kk zs ws xs g4 g5 g6 gw gx o4 o5 o6 ow cp cx).ex (gI49_32c vs T ss kk zs ws xs g4 g5 g6 gw gx o4 o5 o6 ow cp cx).fm (gI49_32c vs T ss kk zs ws xs g4 g5 g6 gw gx o4 o5 o6 ow cp cx).tab := by
  obtain ⟨hT, hv, h1, h2, _⟩ := h.h
  simp only [Con.h] at hT hv h1 h2
  injection hv with hv
  subst hT hv
  exact loopI49_32 h1 h2
noncomputable def gI49_32 : List AVal → Tab → Out := fun vs T => gI49_32c vs T (xsAt T 4) (xsAt T 5) (xsAt T 6) (xsAt T 8) (xsAt T 9) (gAt T 4) (gAt T 5) (gAt T 6) (gAt T 8) (gAt T 9) (owAt T 4) (owAt T 5) (owAt T 6) (owAt T 8) (capOf (vAt vs 0)) (capOf (vAt vs 2))
theorem gI49_32_ok : BlkOk eT32 f49 2 (.loop (roundOf 2 f49)) (blkS 10 [1,4,10,15] gI49_32) := blkS_ok fun vs T h => gI49_32c_ok h
noncomputable def orc49_32 : OrcL := [(0, blkS2 9 10 [1,2,4,9,10,11] gG49_32), (2, blkS 10 [1,4,10,15] gI49_32)]
theorem orc49_32_ok : FnOrc eT32 f49 orc49_32 := FnOrc.cons gG49_32_ok (by kernel_rfl) (FnOrc.cons gI49_32_ok (by kernel_rfl) FnOrc.nil)
noncomputable def R49_32 (ss kk zs : List Int) (g4 g5 g6 off : Nat) (cp ck : Option Nat) : Res := resG 7 [0, 1, 2, 3, 4, 5, 6, 9] (runF eT32 f49 orc49_32 1000 [.agg [.int .i64 32, .int .i64 64, .int .i64 64, .slice 1 0 0 0 3 (some 3), .slice 1 1 0 0 3 (some 3), .slice 1 2 0 0 3 (some 3), .slice 1 3 0 0 3 (some 3)], .slice 1 4 g4 0 8 cp, .slice 1 5 g5 0 80 ck, .slice 1 6 g6 off 64 none] [some ⟨.ints .i64 [7, 18, 3], 0, false, 3⟩, some ⟨.ints .i64 [17, 19, 10], 0, false, 3⟩, some ⟨.ints .i64 [2, 13, 22], 0, false, 3⟩, some ⟨.ints .i64 [6, 11, 25], 0, false, 3⟩, some ⟨.ints .u64 ss, g4, false, 56⟩, some ⟨.ints .u64 kk, g5, false, 56⟩, some ⟨.ints .u8 zs, g6, false, 5⟩] [])
theorem R49_32_ok {ss kk zs : List Int} {g4 g5 g6 off : Nat} {cp ck : Option Nat} (h : allP [.eqN g6 g6, .p (zz32Law [7, 18, 3] [17, 19, 10] [2, 13, 22] [6, 11, 25]), .eqN g6 g6, .leN (off + 64) zs.length, .p (BsLaw zs), .eqN g4 g4, .leN 8 ss.length, .p (isCubesLaw kk), .p (WdsLaw 32 (schLaw 32 4294967296 [7, 18, 3] [17, 19, 10] (wordsLaw 4 zs off 16) 48)), .eqN ([] ++ List.take 8 ss).length 8, .p
 (WdsLaw 32 ([] ++ List.take 8 ss)), .eqN ss.length 8]) : OkR (R49_32 ss kk zs g4 g5 g6 off cp ck) := OkR.dem (fl := bitsF 33 4331115455) (by kernel_rfl) (by kernel_rfl) (by kernel_rfl) h
theorem R49_32_val {ss kk zs : List Int} {g4 g5 g6 off : Nat} {cp ck : Option Nat} : (R49_32 ss kk zs g4 g5 g6 off cp ck).val = .slice 1 7 0 0 8 (some 8) := by kernel_rfl
theorem R49_32_tab {ss kk zs : List Int} {g4 g5 g6 off : Nat} {cp ck : Option Nat} : (R49_32 ss kk zs g4 g5 g6 off cp ck).tab = [some ⟨.ints .i64 [7, 18, 3], 0, false, 3⟩, some ⟨.ints .i64 [17, 19, 10], 0, false, 3⟩, some ⟨.ints .i64 [2, 13, 22], 0, false, 3⟩, some ⟨.ints .i64 [6, 11, 25], 0, false, 3⟩, some ⟨.ints .u64 ss, g4, false, 56⟩, some ⟨.ints .u64 kk, g5, false, 56⟩, some ⟨.ints .u8 zs,
 g6, false, 5⟩, some ⟨.ints .u64 (addx32Law ss (rndx32Law (schLaw 32 4294967296 [7, 18, 3] [17, 19, 10] (wordsLaw 4 zs off 16) 48) ([] ++ List.take 8 ss))), 0, true, 56⟩] := by kernel_rfl
end Go.Abs

set_option linter.unusedVariables false
set_option linter.unusedSimpArgs false
set_option maxRecDepth 8000
set_option maxHeartbeats 4000000
namespace Go.Abs
open Go.Proofs Go.Proofs.Tryd
/-! ### the document's block: contract; constants -/
noncomputable def S46 : Summary := sumI modeO (eS0 []) f46 [] 200 [] []
theorem S46_ok : SumOk prog glS 46 S46 := sumI_ok eS0_ok hmS (fn := f46) (by kernel_rfl) (by kernel_rfl) [] FnOrc.nil 200 [] []
noncomputable def S47 : Summary := sumI modeO (eS0 []) f47 [] 200 [] []
theorem S47_ok : SumOk prog glS 47 S47 := sumI_ok eS0_ok hmS (fn := f47) (by kernel_rfl) (by kernel_rfl) [] FnOrc.nil 200 [] []
/-! width 32 -/
def bks32Law (zs : List Int) (off : Nat) (xs : List Int) : List Int := [bkLaw32 zs off xs 0, bkLaw32 zs off xs 1, bkLaw32 zs off xs 2, bkLaw32 zs off xs 3, bkLaw32 zs off xs 4, bkLaw32 zs off xs 5, bkLaw32 zs off xs 6, bkLaw32 zs off xs 7]
theorem bks32_len (zs : List Int) (off : Nat) (xs : List Int) : (bks32Law zs off xs).length = 8 := rfl
theorem bks32_wds (zs : List Int) (off : Nat) (xs : List Int) : Wds 32 (bks32Law zs off xs) := .cons (bkLaw32_wd _ _ _ _) (.cons (bkLaw32_wd _ _ _ _) (.cons (bkLaw32_wd _ _ _ _) (.cons (bkLaw32_wd _ _ _ _) (.cons (bkLaw32_wd _ _ _ _) (.cons (bkLaw32_wd _ _ _ _) (.cons (bkLaw32_wd _ _ _ _) (.cons (bkLaw32_wd _ _ _ _) (.nil 32))))))))
theorem bks32_eq (zs : List Int) (off : Nat) (xs : List Int) : addx32Law xs (rndx32Law (schLaw 32 4294967296 [7, 18, 3] [17, 19, 10] (wordsLaw 4 zs off 16) 48) xs) = bks32Law zs off xs := by
  have h1 : wsLaw 32 4294967296 [7, 18, 3] [17, 19, 10] 64 (arrLaw 4 zs off 15 4) = schLaw 32 4294967296 [7, 18, 3] [17, 19, 10] (wordsLaw 4 zs off 16) 48 ++ List.replicate 16 0 := by
    unfold wsLaw
    rw [arrLaw_end, List.take_append_of_le_length (by rw [wordsLaw_len]; exact Nat.le_refl _), List.take_of_length_le (by rw [wordsLaw_len]; exact Nat.le_refl _)]
  have h2 : rndsLaw 32 4294967296 [2, 13, 22] [6, 11, 25] (wsLaw 32 4294967296 [7, 18, 3] [17, 19, 10] 64 (arrLaw 4 zs off 15 4)) xs 64 = rndx32Law (schLaw 32 4294967296 [7, 18, 3] [17, 19, 10] (wordsLaw 4 zs off 16) 48) xs := by
    rw [h1]
    exact rnds_app 64 (by rw [schLaw_len (wordsLaw_len _ _ _ _)]; exact Nat.le_refl _)
  unfold bks32Law bkLaw32 blkAtLaw rndAtLaw
  rw [h2]
  rfl
noncomputable def sm49_32c (args : List AVal) (T : Tab) (ss : List Int) (kk : List Int) (zs : List Int) (g4 : Nat) (g5 : Nat) (g6 : Nat) (off : Nat) (b : Nat) (cp : Option Nat) (ck : Option Nat) : Res := ⟨[.tab T [some ⟨.ints .i64 [7, 18, 3], 0, false, 3⟩, some ⟨.ints .i64 [17, 19, 10], 0, false, 3⟩, some ⟨.ints .i64 [2, 13, 22], 0, false, 3⟩, some ⟨.ints .i64 [6, 11, 25], 0, false, 3⟩, some ⟨.ints .u64 ss, g4, false, 56⟩, some ⟨.ints .u64 kk, g5, false, 56⟩, some ⟨.ints .u8 zs, g6, false, 5⟩], .val (.tuple args) (.tuple [.agg [.int .i64 32, .int .i64 64, .int .i64 64, .slice 1 0 0 0 3 (some 3), .slice 1 1 0 0 3 (some 3), .slice 1 2 0 0 3 (some 3), .slice 1 3 0 0 3 (some 3)], .slice 1 4 g4 0 8 cp, .slice 1 5 g5 0 80 ck, .slice 1 6 g6 off b none]), .eqN b 64, .leN (off + 64) zs.length, .p (BsLaw zs), .p (isCubesLaw kk), .eqN ss.length 8, .p (WdsLaw 32 ss)], .slice 1 7 0 0 8 (some 8), [some ⟨.ints .i64 [7, 18, 3], 0, false, 3⟩, some ⟨.ints .i64 [17, 19, 10], 0, false, 3⟩, some ⟨.ints .i64 [2, 13, 22], 0, false, 3⟩, some ⟨.ints .i64 [6, 11, 25], 0, false, 3⟩, some ⟨.ints .u64 ss, g4, false, 56⟩, some ⟨.ints .u64 kk, g5, false, 56⟩, some ⟨.ints .u8 zs, g6, false, 5⟩, some ⟨.ints .u64 (bks32Law zs off ss), 0, true, 56⟩]⟩
theorem sm49_32c_ok {args : List AVal} {T : Tab} {ss : List Int} {kk : List Int} {zs : List Int} {g4 : Nat} {g5 : Nat} {g6 : Nat} {off : Nat} {b : Nat} {cp : Option Nat} {ck : Option Nat} (h : allP (sm49_32c args T ss kk zs g4 g5 g6 off b cp ck).cs) : Small prog glS 49 args T (sm49_32c args T ss kk zs g4 g5 g6 off b cp ck).val (sm49_32c args T ss kk zs g4 g5 g6 off b cp ck).tab := by
  obtain ⟨hT, hv, h1, h2, h3, h4, h5, h6, _⟩ := h
  simp only [Con.h] at hT hv h1 h2 h3 h4 h5 h6
  injection hv with hv
  subst hT hv
  subst h1
  refine small_ofG (R := R49_32 ss kk zs g4 g5 g6 off cp ck) (keep := [0, 1, 2, 3, 4, 5, 6, 9]) eT32_ok hmS (f := 49) (fn := f49) (by kernel_rfl) (by kernel_rfl) orc49_32_ok rfl (R49_32_ok ?_) R49_32_val ?_
  · have hz' := zz32
    have hw : WdsLaw 32 (schLaw 32 4294967296 [7, 18, 3] [17, 19, 10] (wordsLaw 4 zs off 16) 48) := schLaw_wds (by decide) (words32_wds h3) _
    have e : List.take 8 ss = ss := List.take_of_length_le (by omega)
    simp only [allP, Con.h, e, List.nil_append, hz', hw, h2, h3, h4, h5, h6, eq_self, true_and, and_true, Nat.le_refl]
  · rw [R49_32_tab, List.take_of_length_le (by omega), List.nil_append, bks32_eq]
    rfl
noncomputable def sm49_32 : Summary := fun args T => sm49_32c args T (xsAt T 4) (xsAt T 5) (xsAt T 6) (gAt T 4) (gAt T 5) (gAt T 6) (offOf (vAt args 3)) (lenOf (vAt args 3)) (capOf (vAt args 1)) (capOf (vAt args 2))
theorem sm49_32_ok : SmOk prog glS 49 sm49_32 := fun args T h => sm49_32c_ok h
noncomputable def S49_32 : Summary := callR sm49_32 []
theorem S49_32_ok : SumOk prog glS 49 S49_32 := callR_ok sm49_32_ok []
noncomputable def A48_32 (off n m : Nat) (cp : Option Nat) (zs xs : List Int) (g4 g6 : Nat) (o4 : Bool) : Out := trim 7 7 [1,2,5] (run (eS0 []) 53 ⟨7, []⟩ 400 (roundOf 0 f48) [(1, .slice 1 4 g4 off n cp), (2, .var 5 0), (5, .slice 1 6 g6 0 m none)] [some ⟨.ints .i64 [7, 18, 3], 0, false, 3⟩, some ⟨.ints .i64 [17, 19, 10], 0, false, 3⟩, some ⟨.ints .i64 [2, 13, 22], 0, false, 3⟩, some ⟨.ints .i64 [6, 11, 25], 0, false, 3⟩, some ⟨.ints .u8 zs, g4, o4, 5⟩, some ⟨.agg [.int .i64 32, .int .i64 64, .int .i64 64, .slice 1 0 0 0 3 (some 3), .slice 1 1 0 0 3 (some 3), .slice 1 2 0 0 3 (some 3), .slice 1 3 0 0 3 (some 3)], 0, true, 54⟩, some ⟨.ints .u8 xs, g6, true, 5⟩] [some true])
theorem A48_32_ok {off n m : Nat} {cp : Option Nat} {zs xs : List Int} {g4 g6 : Nat} {o4 : Bool} (h : allP [.eqN g6 g6, .rng (-9223372036854775808) ((↑m : Int) + 8) 9223372036854775807, .p ((((↑m : Int) + 8).tmod 64 != 0) = true), .eqN g6 g6, .leN (0 + m) xs.length, .leN (addO m 1) 140737488355328]) : Ok (A48_32 off n m cp zs xs g4 g6 o4) := Ok.dem (fl := bitsF 21 1865662) (by kernel_rfl) (by
 kernel_rfl) (by kernel_rfl) h
theorem A48_32_ex {off n m : Nat} {cp : Option Nat} {zs xs : List Int} {g4 g6 : Nat} {o4 : Bool} : (A48_32 off n m cp zs xs g4 g6 o4).ex = .normal := by kernel_rfl
theorem A48_32_fm {off n m : Nat} {cp : Option Nat} {zs xs : List Int} {g4 g6 : Nat} {o4 : Bool} : (A48_32 off n m cp zs xs g4 g6 o4).fm = [(1, .slice 1 4 g4 off n cp), (2, .var 5 0), (5, .slice 1 6 (g6 + 1) 0 (addO m 1) none)] := by kernel_rfl
theorem A48_32_tab {off n m : Nat} {cp : Option Nat} {zs xs : List Int} {g4 g6 : Nat} {o4 : Bool} : (A48_32 off n m cp zs xs g4 g6 o4).tab = [some ⟨.ints .i64 [7, 18, 3], 0, false, 3⟩, some ⟨.ints .i64 [17, 19, 10], 0, false, 3⟩, some ⟨.ints .i64 [2, 13, 22], 0, false, 3⟩, some ⟨.ints .i64 [6, 11, 25], 0, false, 3⟩, some ⟨.ints .u8 zs, g4, o4, 5⟩, some ⟨.agg [.int .i64 32, .int .i64 64, .int .i64
 64, .slice 1 0 0 0 3 (some 3), .slice 1 1 0 0 3 (some 3), .slice 1 2 0 0 3 (some 3), .slice 1 3 0 0 3 (some 3)], 0, true, 54⟩, some ⟨.ints .u8 (List.take m xs ++ [0]), g6 + 1, true, 5⟩] := by kernel_rfl
noncomputable def B48_32 (off n m : Nat) (cp : Option Nat) (zs xs : List Int) (g4 g6 : Nat) (o4 : Bool) : Out := trim 7 7 [1,2,5] (run (eS0 []) 53 ⟨7, []⟩ 400 (roundOf 0 f48) [(1, .slice 1 4 g4 off n cp), (2, .var 5 0), (5, .slice 1 6 g6 0 m none)] [some ⟨.ints .i64 [7, 18, 3], 0, false, 3⟩, some ⟨.ints .i64 [17, 19, 10], 0, false, 3⟩, some ⟨.ints .i64 [2, 13, 22], 0, false, 3⟩, some ⟨.ints .i64 [6, 11, 25], 0, false, 3⟩, some ⟨.ints .u8 zs, g4, o4, 5⟩, some ⟨.agg [.int .i64 32, .int .i64 64, .int .i64 64, .slice 1 0 0 0 3 (some 3), .slice 1 1 0 0 3 (some 3), .slice 1 2 0 0 3 (some 3), .slice 1 3 0 0 3 (some 3)], 0, true, 54⟩, some ⟨.ints .u8 xs, g6, true, 5⟩] [some false])
theorem B48_32_ok {off n m : Nat} {cp : Option Nat} {zs xs : List Int} {g4 g6 : Nat} {o4 : Bool} (h : allP [.eqN g6 g6, .rng (-9223372036854775808) ((↑m : Int) + 8) 9223372036854775807, .p ((((↑m : Int) + 8).tmod 64 != 0) = false)]) : Ok (B48_32 off n m cp zs xs g4 g6 o4) := Ok.dem (fl := bitsF 12 1982) (by kernel_rfl) (by kernel_rfl) (by kernel_rfl) h
theorem B48_32_ex {off n m : Nat} {cp : Option Nat} {zs xs : List Int} {g4 g6 : Nat} {o4 : Bool} : (B48_32 off n m cp zs xs g4 g6 o4).ex = .exit 0 := by kernel_rfl
theorem B48_32_fm {off n m : Nat} {cp : Option Nat} {zs xs : List Int} {g4 g6 : Nat} {o4 : Bool} : (B48_32 off n m cp zs xs g4 g6 o4).fm = [(1, .slice 1 4 g4 off n cp), (2, .var 5 0), (5, .slice 1 6 g6 0 m none)] := by kernel_rfl
theorem B48_32_tab {off n m : Nat} {cp : Option Nat} {zs xs : List Int} {g4 g6 : Nat} {o4 : Bool} : (B48_32 off n m cp zs xs g4 g6 o4).tab = [some ⟨.ints .i64 [7, 18, 3], 0, false, 3⟩, some ⟨.ints .i64 [17, 19, 10], 0, false, 3⟩, some ⟨.ints .i64 [2, 13, 22], 0, false, 3⟩, some ⟨.ints .i64 [6, 11, 25], 0, false, 3⟩, some ⟨.ints .u8 zs, g4, o4, 5⟩, some ⟨.agg [.int .i64 32, .int .i64 64, .int .i64
 64, .slice 1 0 0 0 3 (some 3), .slice 1 1 0 0 3 (some 3), .slice 1 2 0 0 3 (some 3), .slice 1 3 0 0 3 (some 3)], 0, true, 54⟩, some ⟨.ints .u8 xs, g6, true, 5⟩] := by kernel_rfl
noncomputable def C48_32 (x : Int) (zs xs : List Int) (g4 g6 : Nat) (o4 : Bool) : Out := trim 7 7 [5] (run (eS0 []) 53 ⟨7, []⟩ 1000 (.block 2 (.loop (roundOf 2 f48))) [(5, .slice 1 6 g6 0 xs.length none), (6, .int .u64 x), (7, .int .i64 7)] [some ⟨.ints .i64 [7, 18, 3], 0, false, 3⟩, some ⟨.ints .i64 [17, 19, 10], 0, false, 3⟩, some ⟨.ints .i64 [2, 13, 22], 0, false, 3⟩, some ⟨.ints .i64 [6, 11, 25], 0, false, 3⟩, some ⟨.ints .u8 zs, g4, o4, 5⟩, some ⟨.agg [.int .i64 32, .int .i64 64, .int .i64 64, .slice 1 0 0 0 3 (some 3), .slice 1 1 0 0 3 (some 3), .slice 1 2 0 0 3 (some 3), .slice 1 3 0 0 3 (some 3)], 0, true, 54⟩, some ⟨.ints .u8 xs, g6, true, 5⟩] [])
theorem C48_32_ok {x : Int} {zs xs : List Int} {g4 g6 : Nat} {o4 : Bool} (h : allP [.eqN g6 g6, .leN (0 + xs.length) xs.length, .leN (addO xs.length 1) 140737488355328, .eqN (g6 + 1) (g6 + 1), .leN (0 + addO xs.length 1) (List.take xs.length xs ++ [x / 72057594037927936 % 256]).length, .leN (addO (addO xs.length 1) 1) 140737488355328, .eqN (g6 + 1 + 1) (g6 + 1 + 1), .leN (0 + addO (addO xs.length
 1) 1) (List.take (addO xs.length 1) (List.take xs.length xs ++ [x / 72057594037927936 % 256]) ++ [x / 281474976710656 % 256]).length, .leN (addO (addO (addO xs.length 1) 1) 1) 140737488355328, .eqN (g6 + 1 + 1 + 1) (g6 + 1 + 1 + 1), .leN (0 + addO (addO (addO xs.length 1) 1) 1) (List.take (addO (addO xs.length 1) 1) (List.take (addO xs.length 1) (List.take xs.length xs ++ [x / 72057594037927936 %
 256]) ++ [x / 281474976710656 % 256]) ++ [x / 1099511627776 % 256]).length, .leN (addO (addO (addO (addO xs.length 1) 1) 1) 1) 140737488355328, .eqN (g6 + 1 + 1 + 1 + 1) (g6 + 1 + 1 + 1 + 1), .leN (0 + addO (addO (addO (addO xs.length 1) 1) 1) 1) (List.take (addO (addO (addO xs.length 1) 1) 1) (List.take (addO (addO xs.length 1) 1) (List.take (addO xs.length 1) (List.take xs.length xs ++ [x /
 72057594037927936 % 256]) ++ [x / 281474976710656 % 256]) ++ [x / 1099511627776 % 256]) ++ [x / 4294967296 % 256]).length, .leN (addO (addO (addO (addO (addO xs.length 1) 1) 1) 1) 1) 140737488355328, .eqN (g6 + 1 + 1 + 1 + 1 + 1) (g6 + 1 + 1 + 1 + 1 + 1), .leN (0 + addO (addO (addO (addO (addO xs.length 1) 1) 1) 1) 1) (List.take (addO (addO (addO (addO xs.length 1) 1) 1) 1) (List.take (addO (addO
 (addO xs.length 1) 1) 1) (List.take (addO (addO xs.length 1) 1) (List.take (addO xs.length 1) (List.take xs.length xs ++ [x / 72057594037927936 % 256]) ++ [x / 281474976710656 % 256]) ++ [x / 1099511627776 % 256]) ++ [x / 4294967296 % 256]) ++ [x / 16777216 % 256]).length, .leN (addO (addO (addO (addO (addO (addO xs.length 1) 1) 1) 1) 1) 1) 140737488355328, .eqN (g6 + 1 + 1 + 1 + 1 + 1 + 1) (g6 + 1
 + 1 + 1 + 1 + 1 + 1), .leN (0 + addO (addO (addO (addO (addO (addO xs.length 1) 1) 1) 1) 1) 1) (List.take (addO (addO (addO (addO (addO xs.length 1) 1) 1) 1) 1) (List.take (addO (addO (addO (addO xs.length 1) 1) 1) 1) (List.take (addO (addO (addO xs.length 1) 1) 1) (List.take (addO (addO xs.length 1) 1) (List.take (addO xs.length 1) (List.take xs.length xs ++ [x / 72057594037927936 % 256]) ++ [x /
 281474976710656 % 256]) ++ [x / 1099511627776 % 256]) ++ [x / 4294967296 % 256]) ++ [x / 16777216 % 256]) ++ [x / 65536 % 256]).length, .leN (addO (addO (addO (addO (addO (addO (addO xs.length 1) 1) 1) 1) 1) 1) 1) 140737488355328, .eqN (g6 + 1 + 1 + 1 + 1 + 1 + 1 + 1) (g6 + 1 + 1 + 1 + 1 + 1 + 1 + 1), .leN (0 + addO (addO (addO (addO (addO (addO (addO xs.length 1) 1) 1) 1) 1) 1) 1) (List.take (addO
 (addO (addO (addO (addO (addO xs.length 1) 1) 1) 1) 1) 1) (List.take (addO (addO (addO (addO (addO xs.length 1) 1) 1) 1) 1) (List.take (addO (addO (addO (addO xs.length 1) 1) 1) 1) (List.take (addO (addO (addO xs.length 1) 1) 1) (List.take (addO (addO xs.length 1) 1) (List.take (addO xs.length 1) (List.take xs.length xs ++ [x / 72057594037927936 % 256]) ++ [x / 281474976710656 % 256]) ++ [x /
 1099511627776 % 256]) ++ [x / 4294967296 % 256]) ++ [x / 16777216 % 256]) ++ [x / 65536 % 256]) ++ [x / 256 % 256]).length, .leN (addO (addO (addO (addO (addO (addO (addO (addO xs.length 1) 1) 1) 1) 1) 1) 1) 1) 140737488355328]) : Ok (C48_32 x zs xs g4 g6 o4) := Ok.dem (fl := bitsF 104 19173079912229872310172575596095) (by kernel_rfl) (by kernel_rfl) (by kernel_rfl) h
theorem C48_32_ex {x : Int} {zs xs : List Int} {g4 g6 : Nat} {o4 : Bool} : (C48_32 x zs xs g4 g6 o4).ex = .normal := by kernel_rfl
theorem C48_32_fm {x : Int} {zs xs : List Int} {g4 g6 : Nat} {o4 : Bool} : (C48_32 x zs xs g4 g6 o4).fm = [(5, .slice 1 6 (g6 + 1 + 1 + 1 + 1 + 1 + 1 + 1 + 1) 0 (addO (addO (addO (addO (addO (addO (addO (addO xs.length 1) 1) 1) 1) 1) 1) 1) 1) none)] := by kernel_rfl
theorem C48_32_tab {x : Int} {zs xs : List Int} {g4 g6 : Nat} {o4 : Bool} : (C48_32 x zs xs g4 g6 o4).tab = [some ⟨.ints .i64 [7, 18, 3], 0, false, 3⟩, some ⟨.ints .i64 [17, 19, 10], 0, false, 3⟩, some ⟨.ints .i64 [2, 13, 22], 0, false, 3⟩, some ⟨.ints .i64 [6, 11, 25], 0, false, 3⟩, some ⟨.ints .u8 zs, g4, o4, 5⟩, some ⟨.agg [.int .i64 32, .int .i64 64, .int .i64 64, .slice 1 0 0 0 3 (some 3),
 .slice 1 1 0 0 3 (some 3), .slice 1 2 0 0 3 (some 3), .slice 1 3 0 0 3 (some 3)], 0, true, 54⟩, some ⟨.ints .u8 (List.take (addO (addO (addO (addO (addO (addO (addO xs.length 1) 1) 1) 1) 1) 1) 1) (List.take (addO (addO (addO (addO (addO (addO xs.length 1) 1) 1) 1) 1) 1) (List.take (addO (addO (addO (addO (addO xs.length 1) 1) 1) 1) 1) (List.take (addO (addO (addO (addO xs.length 1) 1) 1) 1)
 (List.take (addO (addO (addO xs.length 1) 1) 1) (List.take (addO (addO xs.length 1) 1) (List.take (addO xs.length 1) (List.take xs.length xs ++ [x / 72057594037927936 % 256]) ++ [x / 281474976710656 % 256]) ++ [x / 1099511627776 % 256]) ++ [x / 4294967296 % 256]) ++ [x / 16777216 % 256]) ++ [x / 65536 % 256]) ++ [x / 256 % 256]) ++ [x / 1 % 256]), g6 + 1 + 1 + 1 + 1 + 1 + 1 + 1 + 1, true, 5⟩] := by
 kernel_rfl
end Go.Abs

set_option linter.unusedVariables false
set_option linter.unusedSimpArgs false
set_option maxRecDepth 8000
set_option maxHeartbeats 4000000
namespace Go.Abs
open Go.Proofs Go.Proofs.Tryd
/-! ### the document's padding -/
/-! width 32 -/
def FA48_32 (g4 off n : Nat) (cp : Option Nat) (g6 m : Nat) : Fm := [(1, .slice 1 4 g4 off n cp), (2, .var 5 0), (5, .slice 1 6 g6 0 m none)]
def TA48_32 (zs : List Int) (g4 : Nat) (o4 : Bool) (xs : List Int) (g6 : Nat) : Tab := [some ⟨.ints .i64 [7, 18, 3], 0, false, 3⟩, some ⟨.ints .i64 [17, 19, 10], 0, false, 3⟩, some ⟨.ints .i64 [2, 13, 22], 0, false, 3⟩, some ⟨.ints .i64 [6, 11, 25], 0, false, 3⟩, some ⟨.ints .u8 zs, g4, o4, 5⟩, some ⟨.agg [.int .i64 32, .int .i64 64, .int .i64 64, .slice 1 0 0 0 3 (some 3), .slice 1 1 0 0 3 (some 3), .slice 1 2 0 0 3 (some 3), .slice 1 3 0 0 3 (some 3)], 0, true, 54⟩, some ⟨.ints .u8 xs, g6, true, 5⟩]
theorem loopA48_32 {zs xs : List Int} {g4 g6 off n : Nat} {cp : Option Nat} {o4 : Bool} (hl : xs.length + 64 ≤ 140737488355328) :
    To (eS0 []) 53 7 (.block 0 (.loop (roundOf 0 f48))) (FA48_32 g4 off n cp g6 xs.length) (TA48_32 zs g4 o4 xs g6) .normal (FA48_32 g4 off n cp (g6 + padLaw 64 xs.length) (xs.length + padLaw 64 xs.length)) (TA48_32 zs g4 o4 (xs ++ zeroLaw (padLaw 64 xs.length)) (g6 + padLaw 64 xs.length)) := by
  have hle := pad64_le xs.length
  have hat := pad64_at xs.length
  refine To.start (T0 := TA48_32 zs g4 o4 (xs ++ zeroLaw 0) g6) (by rw [show xs ++ zeroLaw 0 = xs from List.append_nil _]) ?_
  refine To.rounds (fun i => FA48_32 g4 off n cp (g6 + i) (xs.length + i)) (fun i => TA48_32 zs g4 o4 (xs ++ zeroLaw i) (g6 + i)) (padLaw 64 xs.length) (fun i hi => ?_)
    (To.of (o := B48_32 off n (xs.length + padLaw 64 xs.length) cp zs (xs ++ zeroLaw (padLaw 64 xs.length)) g4 (g6 + padLaw 64 xs.length) o4) eS0_ok hmS (Nat.le_refl 7) OrcOk.nil rfl (B48_32_ok ?_) B48_32_ex B48_32_fm B48_32_tab)
  · have hne := pad64_lt hi
    have hlen : (xs ++ zeroLaw i).length = xs.length + i := by rw [List.length_append, zero_len]
    refine To.of (o := A48_32 off n (xs.length + i) cp zs (xs ++ zeroLaw i) g4 (g6 + i) o4) eS0_ok hmS (Nat.le_refl 7) OrcOk.nil rfl (A48_32_ok ?_) A48_32_ex (by rw [A48_32_fm, addO_eq]; rfl) ?_
    · simp only [allP, Con.h, hlen, addO_eq, Nat.zero_add, Nat.le_refl, eq_self, true_and, and_true]
      refine ⟨by omega, ?_, by omega⟩
      rw [show (((xs.length + i : Nat) : Int) + 8) = ((xs.length + i + 8 : Nat) : Int) by omega, show (64 : Int) = ((64 : Nat) : Int) from rfl, tmod_nat, bne_iff_ne]
      omega
    · rw [A48_32_tab, List.take_of_length_le (by omega), zero_snoc]
      rfl
  · simp only [allP, Con.h, eq_self, true_and, and_true]
    refine ⟨by omega, ?_⟩
    rw [show (((xs.length + padLaw 64 xs.length : Nat) : Int) + 8) = ((xs.length + padLaw 64 xs.length + 8 : Nat) : Int) by omega, show (64 : Int) = ((64 : Nat) : Int) from rfl, tmod_nat, show (xs.length + padLaw 64 xs.length + 8) % 64 = 0 by omega]
    rfl
noncomputable def gA48_32c (vs : List AVal) (T : Tab) (zs : List Int) (xs : List Int) (g4 : Nat) (g6 : Nat) (o4 : Bool) (off : Nat) (n : Nat) (cp : Option Nat) (m : Nat) : Out := ⟨[.tab T [some ⟨.ints .i64 [7, 18, 3], 0, false, 3⟩, some ⟨.ints .i64 [17, 19, 10], 0, false, 3⟩, some ⟨.ints .i64 [2, 13, 22], 0, false, 3⟩, some ⟨.ints .i64 [6, 11, 25], 0, false, 3⟩, some ⟨.ints .u8 zs, g4, o4, 5⟩, some ⟨.agg [.int .i64 32, .int .i64 64, .int .i64 64, .slice 1 0 0 0 3 (some 3), .slice 1 1 0 0 3 (some 3), .slice 1 2 0 0 3 (some 3), .slice 1 3 0 0 3 (some 3)], 0, true, 54⟩, some ⟨.ints .u8 xs, g6, true, 5⟩], .val (.tuple vs) (.tuple [.slice 1 4 g4 off n cp, .var 5 0, .slice 1 6 g6 0 m none]), .eqN m xs.length, .leN (xs.length + 64) 140737488355328], .normal, [(1, .slice 1 4 g4 off n cp), (2, .var 5 0), (5, .slice 1 6 (g6 + padLaw 64 m) 0 (m + padLaw 64 m) none)], [some ⟨.ints .i64 [7, 18, 3], 0, false, 3⟩, some ⟨.ints .i64 [17, 19, 10], 0, false, 3⟩, some ⟨.ints .i64 [2, 13, 22], 0, false, 3⟩, some ⟨.ints .i64 [6, 11, 25], 0, false, 3⟩, some ⟨.ints .u8 zs, g4, o4, 5⟩, some ⟨.agg [.int .i64 32, .int .i64 64, .int .i64 64, .slice 1 0 0 0 3 (some 3), .slice 1 1 0 0 3 (some 3), .slice 1 2 0 0 3 (some 3), .slice 1 3 0 0 3 (some 3)], 0, true, 54⟩, some ⟨.ints .u8 (xs ++ zeroLaw (padLaw 64 m)), g6 + padLaw 64 m, true, 5⟩], []⟩
theorem gA48_32c_ok {vs : List AVal} {T : Tab} {zs : List Int} {xs : List Int} {g4 : Nat} {g6 : Nat} {o4 : Bool} {off : Nat} {n : Nat} {cp : Option Nat} {m : Nat} (h : Ok (gA48_32c vs T zs xs g4 g6 o4 off n cp m)) : To (eS0 []) 53 7 (.block 0 (.loop (roundOf 0 f48))) (zipF [1,2,5] vs) T (gA48_32c vs T zs xs g4 g6 o4 off n cp m).ex (gA48_32c vs T zs xs g4 g6 o4 off n cp m).fm (gA48_32c vs T zs xs g4 g6 o4 off n cp m).tab := by
  obtain ⟨hT, hv, h1, h2, _⟩ := h.h
  simp only [Con.h] at hT hv h1 h2
  injection hv with hv
  subst hT hv
  subst h1
  exact loopA48_32 h2
noncomputable def gA48_32 : List AVal → Tab → Out := fun vs T => gA48_32c vs T (xsAt T 4) (xsAt T 6) (gAt T 4) (gAt T 6) (owAt T 4) (offOf (vAt vs 0)) (lenOf (vAt vs 0)) (capOf (vAt vs 0)) (lenOf (vAt vs 2))
theorem gA48_32_ok : BlkOk (eS0 []) f48 0 (.loop (roundOf 0 f48)) (blkS 7 [1,2,5] gA48_32) := blkS_ok fun vs T h => gA48_32c_ok h
noncomputable def gC48_32c (vs : List AVal) (T : Tab) (zs : List Int) (xs : List Int) (g4 : Nat) (g6 : Nat) (o4 : Bool) (m : Nat) (x : Int) : Out := ⟨[.tab T [some ⟨.ints .i64 [7, 18, 3], 0, false, 3⟩, some ⟨.ints .i64 [17, 19, 10], 0, false, 3⟩, some ⟨.ints .i64 [2, 13, 22], 0, false, 3⟩, some ⟨.ints .i64 [6, 11, 25], 0, false, 3⟩, some ⟨.ints .u8 zs, g4, o4, 5⟩, some ⟨.agg [.int .i64 32, .int .i64 64, .int .i64 64, .slice 1 0 0 0 3 (some 3), .slice 1 1 0 0 3 (some 3), .slice 1 2 0 0 3 (some 3), .slice 1 3 0 0 3 (some 3)], 0, true, 54⟩, some ⟨.ints .u8 xs, g6, true, 5⟩], .val (.tuple vs) (.tuple [.slice 1 6 g6 0 m none, .int .u64 x, .int .i64 7]), .eqN m xs.length, .leN (xs.length + 64) 140737488355328], .normal, [(5, .slice 1 6 (g6 + 8) 0 (m + 8) none)], [some ⟨.ints .i64 [7, 18, 3], 0, false, 3⟩, some ⟨.ints .i64 [17, 19, 10], 0, false, 3⟩, some ⟨.ints .i64 [2, 13, 22], 0, false, 3⟩, some ⟨.ints .i64 [6, 11, 25], 0, false, 3⟩, some ⟨.ints .u8 zs, g4, o4, 5⟩, some ⟨.agg [.int .i64 32, .int .i64 64, .int .i64 64, .slice 1 0 0 0 3 (some 3), .slice 1 1 0 0 3 (some 3), .slice 1 2 0 0 3 (some 3), .slice 1 3 0 0 3 (some 3)], 0, true, 54⟩, some ⟨.ints .u8 (xs ++ zeroLaw 0 ++ beLaw 8 x), g6 + 8, true, 5⟩], []⟩
theorem gC48_32c_ok {vs : List AVal} {T : Tab} {zs : List Int} {xs : List Int} {g4 : Nat} {g6 : Nat} {o4 : Bool} {m : Nat} {x : Int} (h : Ok (gC48_32c vs T zs xs g4 g6 o4 m x)) : To (eS0 []) 53 7 (.block 2 (.loop (roundOf 2 f48))) (zipF [5,6,7] vs) T (gC48_32c vs T zs xs g4 g6 o4 m x).ex (gC48_32c vs T zs xs g4 g6 o4 m x).fm (gC48_32c vs T zs xs g4 g6 o4 m x).tab := by
  obtain ⟨hT, hv, h1, h2, _⟩ := h.h
  simp only [Con.h] at hT hv h1 h2
  injection hv with hv
  subst hT hv
  subst h1
  refine To.of (o := C48_32 x zs xs g4 g6 o4) eS0_ok hmS (Nat.le_refl 7) OrcOk.nil rfl (C48_32_ok ?_) C48_32_ex (by rw [C48_32_fm]; simp only [addO_eq]; rfl) ?_
  · simp only [allP, Con.h, addO_eq, List.take_length, take_snoc, List.length_append, List.length_cons, List.length_nil, Nat.zero_add, Nat.le_refl, eq_self, true_and, and_true]
    omega
  · rw [C48_32_tab]
    simp only [addO_eq, List.take_length, take_snoc, List.length_append, List.length_cons, List.length_nil, Nat.zero_add]
    show _ = ([some ⟨.ints .i64 [7, 18, 3], 0, false, 3⟩, some ⟨.ints .i64 [17, 19, 10], 0, false, 3⟩, some ⟨.ints .i64 [2, 13, 22], 0, false, 3⟩, some ⟨.ints .i64 [6, 11, 25], 0, false, 3⟩, some ⟨.ints .u8 zs, g4, o4, 5⟩, some ⟨.agg [.int .i64 32, .int .i64 64, .int .i64 64, .slice 1 0 0 0 3 (some 3), .slice 1 1 0 0 3 (some 3), .slice 1 2 0 0 3 (some 3), .slice 1 3 0 0 3 (some 3)], 0, true, 54⟩, some ⟨.ints .u8 (xs ++ zeroLaw 0 ++ beLaw 8 x), g6 + 8, true, 5⟩] : Tab)
    simp only [List.append_assoc]
    rfl
noncomputable def gC48_32 : List AVal → Tab → Out := fun vs T => gC48_32c vs T (xsAt T 4) (xsAt T 6) (gAt T 4) (gAt T 6) (owAt T 4) (lenOf (vAt vs 0)) (iOf (vAt vs 1))
theorem gC48_32_ok : BlkOk (eS0 []) f48 2 (.loop (roundOf 2 f48)) (blkS 7 [5,6,7] gC48_32) := blkS_ok fun vs T h => gC48_32c_ok h
noncomputable def orc48_32 : OrcL := [(0, blkS 7 [1,2,5] gA48_32), (2, blkS 7 [5,6,7] gC48_32)]
theorem orc48_32_ok : FnOrc (eS0 []) f48 orc48_32 := FnOrc.cons gA48_32_ok (by kernel_rfl) (FnOrc.cons gC48_32_ok (by kernel_rfl) FnOrc.nil)
noncomputable def R48_32 (zs : List Int) (g4 off n : Nat) (cp : Option Nat) : Res := resG 5 [0, 1, 2, 3, 4, 6] (runF (eS0 []) f48 orc48_32 1000 [.agg [.int .i64 32, .int .i64 64, .int .i64 64, .slice 1 0 0 0 3 (some 3), .slice 1 1 0 0 3 (some 3), .slice 1 2 0 0 3 (some 3), .slice 1 3 0 0 3 (some 3)], .slice 1 4 g4 off n cp] [some ⟨.ints .i64 [7, 18, 3], 0, false, 3⟩, some ⟨.ints .i64 [17, 19, 10], 0, false, 3⟩, some ⟨.ints .i64 [2, 13, 22], 0, false, 3⟩, some ⟨.ints .i64 [6, 11, 25], 0, false, 3⟩, some ⟨.ints .u8 zs, g4, false, 5⟩] [])
theorem R48_32_ok {zs : List Int} {g4 off n : Nat} {cp : Option Nat} (h : allP [.leN n 140737488355328, .eqN g4 g4, .leN (off + n) zs.length, .leN (0 + n) ([] ++ List.take n (dropO off zs)).length, .leN (addO n 1) 140737488355328, .eqN (addO n 1) (List.take n ([] ++ List.take n (dropO off zs)) ++ [128]).length, .leN ((List.take n ([] ++ List.take n (dropO off zs)) ++ [128]).length + 64)
 140737488355328, .eqN g4 g4, .rng 0 (↑n : Int) 18446744073709551615, .eqN (addO n 1 + padLaw 64 (addO n 1)) (List.take n ([] ++ List.take n (dropO off zs)) ++ [128] ++ zeroLaw (padLaw 64 (addO n 1))).length, .leN ((List.take n ([] ++ List.take n (dropO off zs)) ++ [128] ++ zeroLaw (padLaw 64 (addO n 1))).length + 64) 140737488355328]) : OkR (R48_32 zs g4 off n cp) := OkR.dem (fl := bitsF 32
 264300487) (by kernel_rfl) (by kernel_rfl) (by kernel_rfl) h
theorem R48_32_val {zs : List Int} {g4 off n : Nat} {cp : Option Nat} : (R48_32 zs g4 off n cp).val = .slice 1 5 (2 + padLaw 64 (addO n 1) + 8) 0 (addO n 1 + padLaw 64 (addO n 1) + 8) none := by kernel_rfl
theorem R48_32_tab {zs : List Int} {g4 off n : Nat} {cp : Option Nat} : (R48_32 zs g4 off n cp).tab = [some ⟨.ints .i64 [7, 18, 3], 0, false, 3⟩, some ⟨.ints .i64 [17, 19, 10], 0, false, 3⟩, some ⟨.ints .i64 [2, 13, 22], 0, false, 3⟩, some ⟨.ints .i64 [6, 11, 25], 0, false, 3⟩, some ⟨.ints .u8 zs, g4, false, 5⟩, some ⟨.ints .u8 (List.take n ([] ++ List.take n (dropO off zs)) ++ [128] ++ zeroLaw
 (padLaw 64 (addO n 1)) ++ zeroLaw 0 ++ beLaw 8 ((↑n : Int) * 8 % 18446744073709551616)), 2 + padLaw 64 (addO n 1) + 8, true, 5⟩] := by kernel_rfl
end Go.Abs

set_option linter.unusedVariables false
set_option linter.unusedSimpArgs false
set_option maxRecDepth 8000
set_option maxHeartbeats 4000000
namespace Go.Abs
open Go.Proofs Go.Proofs.Tryd
/-! ### the document's padding: contract; pieces of the sum -/
noncomputable def sm48_32c (args : List AVal) (T : Tab) (zs : List Int) (g4 : Nat) (off : Nat) (n : Nat) (cp : Option Nat) : Res := ⟨[.tab T [some ⟨.ints .i64 [7, 18, 3], 0, false, 3⟩, some ⟨.ints .i64 [17, 19, 10], 0, false, 3⟩, some ⟨.ints .i64 [2, 13, 22], 0, false, 3⟩, some ⟨.ints .i64 [6, 11, 25], 0, false, 3⟩, some ⟨.ints .u8 zs, g4, false, 5⟩], .val (.tuple args) (.tuple [.agg [.int .i64 32, .int .i64 64, .int .i64 64, .slice 1 0 0 0 3 (some 3), .slice 1 1 0 0 3 (some 3), .slice 1 2 0 0 3 (some 3), .slice 1 3 0 0 3 (some 3)], .slice 1 4 g4 off n cp]), .leN (off + n) zs.length, .leN n 140737488355000], .slice 1 5 (2 + padLaw 64 (n + 1) + 8) 0 (n + 1 + padLaw 64 (n + 1) + 8) none, [some ⟨.ints .i64 [7, 18, 3], 0, false, 3⟩, some ⟨.ints .i64 [17, 19, 10], 0, false, 3⟩, some ⟨.ints .i64 [2, 13, 22], 0, false, 3⟩, some ⟨.ints .i64 [6, 11, 25], 0, false, 3⟩, some ⟨.ints .u8 zs, g4, false, 5⟩, some ⟨.ints .u8 (fillLaw 64 (subLaw zs off n)), 2 + padLaw 64 (n + 1) + 8, true, 5⟩]⟩
theorem sm48_32c_ok {args : List AVal} {T : Tab} {zs : List Int} {g4 : Nat} {off : Nat} {n : Nat} {cp : Option Nat} (h : allP (sm48_32c args T zs g4 off n cp).cs) : Small prog glS 48 args T (sm48_32c args T zs g4 off n cp).val (sm48_32c args T zs g4 off n cp).tab := by
  obtain ⟨hT, hv, h1, h2, _⟩ := h
  simp only [Con.h] at hT hv h1 h2
  injection hv with hv
  subst hT hv
  have hl := subLaw_len h1
  have hl' : (List.take n (List.drop off zs)).length = n := hl
  have hq := pad64_le (n + 1)
  refine small_ofG (R := R48_32 zs g4 off n cp) (keep := [0, 1, 2, 3, 4, 6]) eS0_ok hmS (f := 48) (fn := f48) (by kernel_rfl) (by kernel_rfl) orc48_32_ok rfl (R48_32_ok ?_) (by rw [R48_32_val, addO_eq]; rfl) ?_
  · simp only [allP, Con.h, addO_eq, dropO_eq, List.nil_append, List.length_append, List.length_take, List.length_drop, zero_len, List.length_cons, List.length_nil, eq_self, true_and, and_true]
    omega
  · rw [R48_32_tab]
    have e : List.take n (subLaw zs off n) = subLaw zs off n := List.take_of_length_le (by omega)
    simp only [addO_eq, dropO_eq, List.nil_append]
    show ([some ⟨.ints .i64 [7, 18, 3], 0, false, 3⟩, some ⟨.ints .i64 [17, 19, 10], 0, false, 3⟩, some ⟨.ints .i64 [2, 13, 22], 0, false, 3⟩, some ⟨.ints .i64 [6, 11, 25], 0, false, 3⟩, some ⟨.ints .u8 zs, g4, false, 5⟩, some ⟨.ints .u8 (List.take n (subLaw zs off n) ++ [128] ++ zeroLaw (padLaw 64 (n + 1)) ++ zeroLaw 0 ++ beLaw 8 ((n : Int) * 8 % 18446744073709551616)), 2 + padLaw 64 (n + 1) + 8, true, 5⟩] : Tab) = _
    rw [show (List.take n (subLaw zs off n) ++ [128] ++ zeroLaw (padLaw 64 (n + 1)) ++ zeroLaw 0 ++ beLaw 8 ((n : Int) * 8 % 18446744073709551616)) = fillLaw 64 (subLaw zs off n) by unfold fillLaw; rw [e, hl]]
    rfl
noncomputable def sm48_32 : Summary := fun args T => sm48_32c args T (xsAt T 4) (gAt T 4) (offOf (vAt args 1)) (lenOf (vAt args 1)) (capOf (vAt args 1))
theorem sm48_32_ok : SmOk prog glS 48 sm48_32 := fun args T h => sm48_32c_ok h
noncomputable def S48_32 : Summary := callR sm48_32 []
theorem S48_32_ok : SumOk prog glS 48 S48_32 := callR_ok sm48_32_ok []
noncomputable def eW32 : Env := eS0 [(46, S46), (47, S47), (48, S48_32), (49, S49_32)]
theorem eW32_ok : EnvOk eW32 := envOf_ok tysS_ok (SumsOk.cons (fn := f46) S46_ok (by kernel_rfl) (by kernel_rfl) (by kernel_rfl) (SumsOk.cons (fn := f47) S47_ok (by kernel_rfl) (by kernel_rfl) (by kernel_rfl) (SumsOk.cons (fn := f48) S48_32_ok (by kernel_rfl) (by kernel_rfl) (by kernel_rfl) (SumsOk.cons (fn := f49) S49_32_ok (by kernel_rfl) (by kernel_rfl) (by kernel_rfl) trivial))))
end Go.Abs

set_option linter.unusedVariables false
set_option linter.unusedSimpArgs false
set_option maxRecDepth 8000
set_option maxHeartbeats 4000000
namespace Go.Abs
open Go.Proofs Go.Proofs.Tryd
/-! ### the document's sum: pieces -/
noncomputable def A36_32 (i : Int) (m : Nat) (ck cs : Option Nat) (zs kk xs ss : List Int) (g4 g6 g7 gs : Nat) (o4 o6 o7 : Bool) : Out := trimG 8 [0,1,2,3,4,5,6,7,9] [2,5,7,9,10] (run eW32 77 ⟨8, []⟩ 400 (roundOf 2 f36) [(2, .var 5 0), (5, .slice 1 6 g6 0 80 ck), (7, .slice 1 8 gs 0 8 cs), (9, .slice 1 7 g7 0 m none), (10, .int .i64 i)] [some ⟨.ints .i64 [7, 18, 3], 0, false, 3⟩, some ⟨.ints .i64 [17, 19, 10], 0, false, 3⟩, some ⟨.ints .i64 [2, 13, 22], 0, false, 3⟩, some ⟨.ints .i64 [6, 11, 25], 0, false, 3⟩, some ⟨.ints .u8 zs, g4, o4, 5⟩, some ⟨.agg [.int .i64 32, .int .i64 64, .int .i64 64, .slice 1 0 0 0 3 (some 3), .slice 1 1 0 0 3 (some 3), .slice 1 2 0 0 3 (some 3), .slice 1 3 0 0 3 (some 3)], 0, true, 54⟩, some ⟨.ints .u64 kk, g6, o6, 56⟩, some ⟨.ints .u8 xs, g7, o7, 5⟩, some ⟨.ints .u64 ss, gs, true, 56⟩] [some true])
theorem A36_32_ok {i : Int} {m : Nat} {ck cs : Option Nat} {zs kk xs ss : List Int} {g4 g6 g7 gs : Nat} {o4 o6 o7 : Bool} (h : allP [.eqN g7 g7, .p (decide (i < (↑m : Int)) = true), .rng (-9223372036854775808) (i + 64) 9223372036854775807, .leI 0 i, .leI 0 (i + 64), .eqN g7 g7, .leN i.toNat (i + 64).toNat, .orN (i + 64).toNat m (0 + (i + 64).toNat) xs.length, .eqN gs gs, .eqN g6 g6, .eqN g7 g7,
 .eqN (subO (i + 64).toNat i.toNat) 64, .leN (i.toNat + 64) xs.length, .p (BsLaw xs), .p (isCubesLaw kk), .eqN ss.length 8, .p (WdsLaw 32 ss), .rng (-9223372036854775808) (i + 64) 9223372036854775807]) : Ok (A36_32 i m ck cs zs kk xs ss g4 g6 g7 gs o4 o6 o7) := Ok.dem (fl := bitsF 34 7516438776) (by kernel_rfl) (by kernel_rfl) (by kernel_rfl) h
theorem A36_32_ex {i : Int} {m : Nat} {ck cs : Option Nat} {zs kk xs ss : List Int} {g4 g6 g7 gs : Nat} {o4 o6 o7 : Bool} : (A36_32 i m ck cs zs kk xs ss g4 g6 g7 gs o4 o6 o7).ex = .normal := by kernel_rfl
theorem A36_32_fm {i : Int} {m : Nat} {ck cs : Option Nat} {zs kk xs ss : List Int} {g4 g6 g7 gs : Nat} {o4 o6 o7 : Bool} : (A36_32 i m ck cs zs kk xs ss g4 g6 g7 gs o4 o6 o7).fm = [(2, .var 5 0), (5, .slice 1 6 g6 0 80 ck), (7, .slice 1 8 0 0 8 (some 8)), (9, .slice 1 7 g7 0 m none), (10, .int .i64 (i + 64))] := by kernel_rfl
theorem A36_32_tab {i : Int} {m : Nat} {ck cs : Option Nat} {zs kk xs ss : List Int} {g4 g6 g7 gs : Nat} {o4 o6 o7 : Bool} : (A36_32 i m ck cs zs kk xs ss g4 g6 g7 gs o4 o6 o7).tab = [some ⟨.ints .i64 [7, 18, 3], 0, false, 3⟩, some ⟨.ints .i64 [17, 19, 10], 0, false, 3⟩, some ⟨.ints .i64 [2, 13, 22], 0, false, 3⟩, some ⟨.ints .i64 [6, 11, 25], 0, false, 3⟩, some ⟨.ints .u8 zs, g4, o4, 5⟩, some
 ⟨.agg [.int .i64 32, .int .i64 64, .int .i64 64, .slice 1 0 0 0 3 (some 3), .slice 1 1 0 0 3 (some 3), .slice 1 2 0 0 3 (some 3), .slice 1 3 0 0 3 (some 3)], 0, true, 54⟩, some ⟨.ints .u64 kk, g6, o6, 56⟩, some ⟨.ints .u8 xs, g7, o7, 5⟩, some ⟨.ints .u64 (bks32Law xs i.toNat ss), 0, true, 56⟩] := by kernel_rfl
noncomputable def B36_32 (i : Int) (m : Nat) (ck cs : Option Nat) (zs kk xs ss : List Int) (g4 g6 g7 gs : Nat) (o4 o6 o7 : Bool) : Out := trim 8 9 [2,7] (run eW32 77 ⟨8, []⟩ 400 (roundOf 2 f36) [(2, .var 5 0), (5, .slice 1 6 g6 0 80 ck), (7, .slice 1 8 gs 0 8 cs), (9, .slice 1 7 g7 0 m none), (10, .int .i64 i)] [some ⟨.ints .i64 [7, 18, 3], 0, false, 3⟩, some ⟨.ints .i64 [17, 19, 10], 0, false, 3⟩, some ⟨.ints .i64 [2, 13, 22], 0, false, 3⟩, some ⟨.ints .i64 [6, 11, 25], 0, false, 3⟩, some ⟨.ints .u8 zs, g4, o4, 5⟩, some ⟨.agg [.int .i64 32, .int .i64 64, .int .i64 64, .slice 1 0 0 0 3 (some 3), .slice 1 1 0 0 3 (some 3), .slice 1 2 0 0 3 (some 3), .slice 1 3 0 0 3 (some 3)], 0, true, 54⟩, some ⟨.ints .u64 kk, g6, o6, 56⟩, some ⟨.ints .u8 xs, g7, o7, 5⟩, some ⟨.ints .u64 ss, gs, true, 56⟩] [some false])
theorem B36_32_ok {i : Int} {m : Nat} {ck cs : Option Nat} {zs kk xs ss : List Int} {g4 g6 g7 gs : Nat} {o4 o6 o7 : Bool} (h : allP [.eqN g7 g7, .p (decide (i < (↑m : Int)) = false)]) : Ok (B36_32 i m ck cs zs kk xs ss g4 g6 g7 gs o4 o6 o7) := Ok.dem (fl := [false, false]) (by kernel_rfl) (by kernel_rfl) (by kernel_rfl) h
theorem B36_32_ex {i : Int} {m : Nat} {ck cs : Option Nat} {zs kk xs ss : List Int} {g4 g6 g7 gs : Nat} {o4 o6 o7 : Bool} : (B36_32 i m ck cs zs kk xs ss g4 g6 g7 gs o4 o6 o7).ex = .exit 2 := by kernel_rfl
theorem B36_32_fm {i : Int} {m : Nat} {ck cs : Option Nat} {zs kk xs ss : List Int} {g4 g6 g7 gs : Nat} {o4 o6 o7 : Bool} : (B36_32 i m ck cs zs kk xs ss g4 g6 g7 gs o4 o6 o7).fm = [(2, .var 5 0), (7, .slice 1 8 gs 0 8 cs)] := by kernel_rfl
theorem B36_32_tab {i : Int} {m : Nat} {ck cs : Option Nat} {zs kk xs ss : List Int} {g4 g6 g7 gs : Nat} {o4 o6 o7 : Bool} : (B36_32 i m ck cs zs kk xs ss g4 g6 g7 gs o4 o6 o7).tab = [some ⟨.ints .i64 [7, 18, 3], 0, false, 3⟩, some ⟨.ints .i64 [17, 19, 10], 0, false, 3⟩, some ⟨.ints .i64 [2, 13, 22], 0, false, 3⟩, some ⟨.ints .i64 [6, 11, 25], 0, false, 3⟩, some ⟨.ints .u8 zs, g4, o4, 5⟩, some
 ⟨.agg [.int .i64 32, .int .i64 64, .int .i64 64, .slice 1 0 0 0 3 (some 3), .slice 1 1 0 0 3 (some 3), .slice 1 2 0 0 3 (some 3), .slice 1 3 0 0 3 (some 3)], 0, true, 54⟩, some ⟨.ints .u64 kk, g6, o6, 56⟩, some ⟨.ints .u8 xs, g7, o7, 5⟩, some ⟨.ints .u64 ss, gs, true, 56⟩] := by kernel_rfl
noncomputable def C36_32 (i : Int) (m : Nat) (cs : Option Nat) (ys : List Int) (g9 : Nat) (zs kk xs ss : List Int) (g4 g6 g7 gs : Nat) (o4 o6 o7 : Bool) : Out := trim 10 10 [2,7,11,12] (run eW32 77 ⟨10, []⟩ 400 (.block 6 (.loop (roundOf 6 f36))) [(2, .var 5 0), (7, .slice 1 8 gs 0 8 cs), (11, .slice 1 9 g9 0 ys.length none), (12, .int .i64 i), (13, .int .i64 24)] [some ⟨.ints .i64 [7, 18, 3], 0, false, 3⟩, some ⟨.ints .i64 [17, 19, 10], 0, false, 3⟩, some ⟨.ints .i64 [2, 13, 22], 0, false, 3⟩, some ⟨.ints .i64 [6, 11, 25], 0, false, 3⟩, some ⟨.ints .u8 zs, g4, o4, 5⟩, some ⟨.agg [.int .i64 32, .int .i64 64, .int .i64 64, .slice 1 0 0 0 3 (some 3), .slice 1 1 0 0 3 (some 3), .slice 1 2 0 0 3 (some 3), .slice 1 3 0 0 3 (some 3)], 0, true, 54⟩, some ⟨.ints .u64 kk, g6, o6, 56⟩, some ⟨.ints .u8 xs, g7, o7, 5⟩, some ⟨.ints .u64 ss, gs, true, 56⟩, some ⟨.ints .u8 ys, g9, true, 5⟩] [])
theorem C36_32_ok {i : Int} {m : Nat} {cs : Option Nat} {ys : List Int} {g9 : Nat} {zs kk xs ss : List Int} {g4 g6 g7 gs : Nat} {o4 o6 o7 : Bool} (h : allP [.eqN gs gs, .leI 0 i, .leI (i + 1) 8, .eqN gs gs, .leN (i.toNat + 1) ss.length, .eqN g9 g9, .leN (0 + ys.length) ys.length, .leN (addO ys.length 1) 140737488355328, .eqN gs gs, .leI 0 i, .leI (i + 1) 8, .eqN gs gs, .leN (i.toNat + 1) ss.length,
 .eqN (g9 + 1) (g9 + 1), .leN (0 + addO ys.length 1) (List.take ys.length ys ++ [ss.getD i.toNat 0 / 16777216 % 256]).length, .leN (addO (addO ys.length 1) 1) 140737488355328, .eqN gs gs, .leI 0 i, .leI (i + 1) 8, .eqN gs gs, .leN (i.toNat + 1) ss.length, .eqN (g9 + 1 + 1) (g9 + 1 + 1), .leN (0 + addO (addO ys.length 1) 1) (List.take (addO ys.length 1) (List.take ys.length ys ++ [ss.getD i.toNat 0 /
 16777216 % 256]) ++ [ss.getD i.toNat 0 / 65536 % 256]).length, .leN (addO (addO (addO ys.length 1) 1) 1) 140737488355328, .eqN gs gs, .leI 0 i, .leI (i + 1) 8, .eqN gs gs, .leN (i.toNat + 1) ss.length, .eqN (g9 + 1 + 1 + 1) (g9 + 1 + 1 + 1), .leN (0 + addO (addO (addO ys.length 1) 1) 1) (List.take (addO (addO ys.length 1) 1) (List.take (addO ys.length 1) (List.take ys.length ys ++ [ss.getD i.toNat
 0 / 16777216 % 256]) ++ [ss.getD i.toNat 0 / 65536 % 256]) ++ [ss.getD i.toNat 0 / 256 % 256]).length, .leN (addO (addO (addO (addO ys.length 1) 1) 1) 1) 140737488355328]) : Ok (C36_32 i m cs ys g9 zs kk xs ss g4 g6 g7 gs o4 o6 o7) := Ok.dem (fl := bitsF 68 278937074641810875360) (by kernel_rfl) (by kernel_rfl) (by kernel_rfl) h
theorem C36_32_ex {i : Int} {m : Nat} {cs : Option Nat} {ys : List Int} {g9 : Nat} {zs kk xs ss : List Int} {g4 g6 g7 gs : Nat} {o4 o6 o7 : Bool} : (C36_32 i m cs ys g9 zs kk xs ss g4 g6 g7 gs o4 o6 o7).ex = .normal := by kernel_rfl
theorem C36_32_fm {i : Int} {m : Nat} {cs : Option Nat} {ys : List Int} {g9 : Nat} {zs kk xs ss : List Int} {g4 g6 g7 gs : Nat} {o4 o6 o7 : Bool} : (C36_32 i m cs ys g9 zs kk xs ss g4 g6 g7 gs o4 o6 o7).fm = [(2, .var 5 0), (7, .slice 1 8 gs 0 8 cs), (11, .slice 1 9 (g9 + 1 + 1 + 1 + 1) 0 (addO (addO (addO (addO ys.length 1) 1) 1) 1) none), (12, .int .i64 i)] := by kernel_rfl
theorem C36_32_tab {i : Int} {m : Nat} {cs : Option Nat} {ys : List Int} {g9 : Nat} {zs kk xs ss : List Int} {g4 g6 g7 gs : Nat} {o4 o6 o7 : Bool} : (C36_32 i m cs ys g9 zs kk xs ss g4 g6 g7 gs o4 o6 o7).tab = [some ⟨.ints .i64 [7, 18, 3], 0, false, 3⟩, some ⟨.ints .i64 [17, 19, 10], 0, false, 3⟩, some ⟨.ints .i64 [2, 13, 22], 0, false, 3⟩, some ⟨.ints .i64 [6, 11, 25], 0, false, 3⟩, some ⟨.ints
 .u8 zs, g4, o4, 5⟩, some ⟨.agg [.int .i64 32, .int .i64 64, .int .i64 64, .slice 1 0 0 0 3 (some 3), .slice 1 1 0 0 3 (some 3), .slice 1 2 0 0 3 (some 3), .slice 1 3 0 0 3 (some 3)], 0, true, 54⟩, some ⟨.ints .u64 kk, g6, o6, 56⟩, some ⟨.ints .u8 xs, g7, o7, 5⟩, some ⟨.ints .u64 ss, gs, true, 56⟩, some ⟨.ints .u8 (List.take (addO (addO (addO ys.length 1) 1) 1) (List.take (addO (addO ys.length 1) 1)
 (List.take (addO ys.length 1) (List.take ys.length ys ++ [ss.getD i.toNat 0 / 16777216 % 256]) ++ [ss.getD i.toNat 0 / 65536 % 256]) ++ [ss.getD i.toNat 0 / 256 % 256]) ++ [ss.getD i.toNat 0 / 1 % 256]), g9 + 1 + 1 + 1 + 1, true, 5⟩] := by kernel_rfl
end Go.Abs

set_option linter.unusedVariables false
set_option linter.unusedSimpArgs false
set_option maxRecDepth 8000
set_option maxHeartbeats 4000000
namespace Go.Abs
open Go.Proofs Go.Proofs.Tryd
/-! ### the document's sum: loops -/
def bysLaw (n : Nat) (ss : List Int) : Nat → List Int
  | 0 => []
  | i + 1 => bysLaw n ss i ++ beLaw n (ss.getD i 0)
theorem bys_len (n : Nat) (ss : List Int) : ∀ i, (bysLaw n ss i).length = n * i
  | 0 => rfl
  | i + 1 => by rw [bysLaw, List.length_append, bys_len n ss i, beLaw_len, Nat.mul_succ]
theorem fill64_mod (xs : List Int) : (fillLaw 64 xs).length % 64 = 0 := by
  have := fill_len 64 xs
  have := pad64_at (xs.length + 1)
  omega
theorem fill128_mod (xs : List Int) : (fillLaw 128 xs).length % 128 = 0 := by
  have := fill_len 128 xs
  have := pad128_at (xs.length + 1)
  omega
/-! width 32 -/
def stl32Law (xs ss : List Int) : List Int := stsLaw32 xs ss (xs.length / 64)
def FA36_32 (g6 g7 : Nat) (ck : Option Nat) (m : Nat) (gs : Nat) (cs : Option Nat) (i : Nat) : Fm := [(2, .var 5 0), (5, .slice 1 6 g6 0 80 ck), (7, .slice 1 8 gs 0 8 cs), (9, .slice 1 7 g7 0 m none), (10, .int .i64 i)]
def TA36_32 (zs kk xs : List Int) (g4 g6 g7 : Nat) (o4 o6 o7 : Bool) (ss : List Int) (gs : Nat) : Tab := [some ⟨.ints .i64 [7, 18, 3], 0, false, 3⟩, some ⟨.ints .i64 [17, 19, 10], 0, false, 3⟩, some ⟨.ints .i64 [2, 13, 22], 0, false, 3⟩, some ⟨.ints .i64 [6, 11, 25], 0, false, 3⟩, some ⟨.ints .u8 zs, g4, o4, 5⟩, some ⟨.agg [.int .i64 32, .int .i64 64, .int .i64 64, .slice 1 0 0 0 3 (some 3), .slice 1 1 0 0 3 (some 3), .slice 1 2 0 0 3 (some 3), .slice 1 3 0 0 3 (some 3)], 0, true, 54⟩, some ⟨.ints .u64 kk, g6, o6, 56⟩, some ⟨.ints .u8 xs, g7, o7, 5⟩, some ⟨.ints .u64 ss, gs, true, 56⟩]
theorem loopA36_32 {zs kk xs ss : List Int} {g4 g6 g7 : Nat} {o4 o6 o7 : Bool} {ck cs : Option Nat} {gs q : Nat} (hk : isCubesLaw kk) (hl : xs.length = 64 * q) (hq : 0 < q) (hm : xs.length ≤ 140737488355328) (hb : BsLaw xs) (hs : ss.length = 8) (hw : Wds 32 ss) :
    To eW32 77 8 (.block 2 (.loop (roundOf 2 f36))) (FA36_32 g6 g7 ck xs.length gs cs 0) (TA36_32 zs kk xs g4 g6 g7 o4 o6 o7 ss gs) .normal [(2, .var 5 0), (7, .slice 1 8 0 0 8 (some 8))] (TA36_32 zs kk xs g4 g6 g7 o4 o6 o7 (stsLaw32 xs ss q) 0) := by
  obtain ⟨q, rfl⟩ : ∃ p, q = p + 1 := ⟨q - 1, by omega⟩
  refine To.rounds (fun i => FA36_32 g6 g7 ck xs.length (gxs gs i) (cxs cs i) (64 * i)) (fun i => TA36_32 zs kk xs g4 g6 g7 o4 o6 o7 (stsLaw32 xs ss i) (gxs gs i)) (q + 1) (fun i hi => ?_)
    (To.of (o := B36_32 (64 * (q + 1) : Nat) xs.length ck (some 8) zs kk xs (stsLaw32 xs ss (q + 1)) g4 g6 g7 0 o4 o6 o7) eW32_ok hmS (Nat.le_refl 8) OrcOk.nil rfl (B36_32_ok (by simp only [allP, Con.h, decide_eq_false_iff_not, eq_self, true_and, and_true]; omega)) B36_32_ex B36_32_fm B36_32_tab)
  have e1 := stsLaw32_len (xs := xs) hs i
  have e2 : WdsLaw 32 (stsLaw32 xs ss i) := stsLaw32_wds (xs := xs) hw i
  show To _ _ _ _ _ _ _ _ (TA36_32 zs kk xs g4 g6 g7 o4 o6 o7 (bks32Law xs (64 * i) (stsLaw32 xs ss i)) 0)
  refine To.ofG (o := A36_32 (64 * i : Nat) xs.length ck (cxs cs i) zs kk xs (stsLaw32 xs ss i) g4 g6 g7 (gxs gs i) o4 o6 o7) eW32_ok hmS (Nat.le_refl 8) OrcOk.nil rfl (A36_32_ok ?_) A36_32_ex ?_ ?_
  · simp only [allP, Con.h, subO_eq, e1, e2, hb, hk, Int.toNat_natCast, show (((64 * i : Nat) : Int) + 64).toNat = 64 * i + 64 by omega, decide_eq_true_eq, eq_self, true_and, and_true]
    omega
  · rw [A36_32_fm, show ((64 * i : Nat) : Int) + 64 = ((64 * (i + 1) : Nat) : Int) by omega]
    rfl
  · rw [A36_32_tab, Int.toNat_natCast]
    rfl
noncomputable def gA36_32c (vs : List AVal) (T : Tab) (zs : List Int) (kk : List Int) (xs : List Int) (ss : List Int) (g4 : Nat) (g6 : Nat) (g7 : Nat) (gs : Nat) (o4 : Bool) (o6 : Bool) (o7 : Bool) (ck : Option Nat) (cs : Option Nat) (m : Nat) : Out := ⟨[.tab T [some ⟨.ints .i64 [7, 18, 3], 0, false, 3⟩, some ⟨.ints .i64 [17, 19, 10], 0, false, 3⟩, some ⟨.ints .i64 [2, 13, 22], 0, false, 3⟩, some ⟨.ints .i64 [6, 11, 25], 0, false, 3⟩, some ⟨.ints .u8 zs, g4, o4, 5⟩, some ⟨.agg [.int .i64 32, .int .i64 64, .int .i64 64, .slice 1 0 0 0 3 (some 3), .slice 1 1 0 0 3 (some 3), .slice 1 2 0 0 3 (some 3), .slice 1 3 0 0 3 (some 3)], 0, true, 54⟩, some ⟨.ints .u64 kk, g6, o6, 56⟩, some ⟨.ints .u8 xs, g7, o7, 5⟩, some ⟨.ints .u64 ss, gs, true, 56⟩], .val (.tuple vs) (.tuple [.var 5 0, .slice 1 6 g6 0 80 ck, .slice 1 8 gs 0 8 cs, .slice 1 7 g7 0 m none, .int .i64 0]), .eqN m xs.length, .p (isCubesLaw kk), .eqN (xs.length % 64) 0, .leN 1 xs.length, .leN xs.length 140737488355328, .p (BsLaw xs), .eqN ss.length 8, .p (WdsLaw 32 ss)], .normal, [(2, .var 5 0), (7, .slice 1 8 0 0 8 (some 8))], [some ⟨.ints .i64 [7, 18, 3], 0, false, 3⟩, some ⟨.ints .i64 [17, 19, 10], 0, false, 3⟩, some ⟨.ints .i64 [2, 13, 22], 0, false, 3⟩, some ⟨.ints .i64 [6, 11, 25], 0, false, 3⟩, some ⟨.ints .u8 zs, g4, o4, 5⟩, some ⟨.agg [.int .i64 32, .int .i64 64, .int .i64 64, .slice 1 0 0 0 3 (some 3), .slice 1 1 0 0 3 (some 3), .slice 1 2 0 0 3 (some 3), .slice 1 3 0 0 3 (some 3)], 0, true, 54⟩, some ⟨.ints .u64 kk, g6, o6, 56⟩, some ⟨.ints .u8 xs, g7, o7, 5⟩, some ⟨.ints .u64 (stl32Law xs ss), 0, true, 56⟩], []⟩
theorem gA36_32c_ok {vs : List AVal} {T : Tab} {zs : List Int} {kk : List Int} {xs : List Int} {ss : List Int} {g4 : Nat} {g6 : Nat} {g7 : Nat} {gs : Nat} {o4 : Bool} {o6 : Bool} {o7 : Bool} {ck : Option Nat} {cs : Option Nat} {m : Nat} (h : Ok (gA36_32c vs T zs kk xs ss g4 g6 g7 gs o4 o6 o7 ck cs m)) : To eW32 77 5 (.block 2 (.loop (roundOf 2 f36))) (zipF [2,5,7,9,10] vs) T (gA36_32c vs T zs kk xs ss g4 g6 g7 gs o4 o6 o7 ck cs m).ex (gA36_32c vs T zs kk xs ss g4 g6 g7 gs o4 o6 o7 ck cs m).fm (gA36_32c vs T zs kk xs ss g4 g6 g7 gs o4 o6 o7 ck cs m).tab := by
  obtain ⟨hT, hv, h1, h2, h3, h4, h5, h6, h7, h8, _⟩ := h.h
  simp only [Con.h] at hT hv h1 h2 h3 h4 h5 h6 h7 h8
  injection hv with hv
  subst hT hv
  subst h1
  exact To.base (by decide) (loopA36_32 (q := xs.length / 64) h2 (by omega) (by omega) h5 h6 h7 h8)
noncomputable def gA36_32 : List AVal → Tab → Out := fun vs T => gA36_32c vs T (xsAt T 4) (xsAt T 6) (xsAt T 7) (xsAt T 8) (gAt T 4) (gAt T 6) (gAt T 7) (gAt T 8) (owAt T 4) (owAt T 6) (owAt T 7) (capOf (vAt vs 1)) (capOf (vAt vs 2)) (lenOf (vAt vs 3))
theorem gA36_32_ok : BlkOk eW32 f36 2 (.loop (roundOf 2 f36)) (blkGC 5 [0,1,2,3,4,5,6,17,9] [2,5,7,9,10] gA36_32) := blkGC_ok fun vs T h => gA36_32c_ok h
noncomputable def gC36_32c (vs : List AVal) (T : Tab) (zs : List Int) (kk : List Int) (xs : List Int) (ss : List Int) (g4 : Nat) (g6 : Nat) (g7 : Nat) (gs : Nat) (o4 : Bool) (o6 : Bool) (o7 : Bool) (cs : Option Nat) (ys : List Int) (g9 : Nat) (m : Nat) (i : Int) : Out := ⟨[.tab T [some ⟨.ints .i64 [7, 18, 3], 0, false, 3⟩, some ⟨.ints .i64 [17, 19, 10], 0, false, 3⟩, some ⟨.ints .i64 [2, 13, 22], 0, false, 3⟩, some ⟨.ints .i64 [6, 11, 25], 0, false, 3⟩, some ⟨.ints .u8 zs, g4, o4, 5⟩, some ⟨.agg [.int .i64 32, .int .i64 64, .int .i64 64, .slice 1 0 0 0 3 (some 3), .slice 1 1 0 0 3 (some 3), .slice 1 2 0 0 3 (some 3), .slice 1 3 0 0 3 (some 3)], 0, true, 54⟩, some ⟨.ints .u64 kk, g6, o6, 56⟩, some ⟨.ints .u8 xs, g7, o7, 5⟩, some ⟨.ints .u64 ss, gs, true, 56⟩, some ⟨.ints .u8 ys, g9, true, 5⟩], .val (.tuple vs) (.tuple [.var 5 0, .slice 1 8 gs 0 8 cs, .slice 1 9 g9 0 m none, .int .i64 i, .int .i64 24]), .eqN m ys.length, .rng 0 i 7, .eqN ss.length 8, .leN (ys.length + 4) 140737488355328], .normal, [(2, .var 5 0), (7, .slice 1 8 gs 0 8 cs), (11, .slice 1 9 (g9 + 4) 0 (m + 4) none), (12, .int .i64 i)], [some ⟨.ints .i64 [7, 18, 3], 0, false, 3⟩, some ⟨.ints .i64 [17, 19, 10], 0, false, 3⟩, some ⟨.ints .i64 [2, 13, 22], 0, false, 3⟩, some ⟨.ints .i64 [6, 11, 25], 0, false, 3⟩, some ⟨.ints .u8 zs, g4, o4, 5⟩, some ⟨.agg [.int .i64 32, .int .i64 64, .int .i64 64, .slice 1 0 0 0 3 (some 3), .slice 1 1 0 0 3 (some 3), .slice 1 2 0 0 3 (some 3), .slice 1 3 0 0 3 (some 3)], 0, true, 54⟩, some ⟨.ints .u64 kk, g6, o6, 56⟩, some ⟨.ints .u8 xs, g7, o7, 5⟩, some ⟨.ints .u64 ss, gs, true, 56⟩, some ⟨.ints .u8 (ys ++ beLaw 4 (ss.getD i.toNat 0)), g9 + 4, true, 5⟩], []⟩
theorem gC36_32c_ok {vs : List AVal} {T : Tab} {zs : List Int} {kk : List Int} {xs : List Int} {ss : List Int} {g4 : Nat} {g6 : Nat} {g7 : Nat} {gs : Nat} {o4 : Bool} {o6 : Bool} {o7 : Bool} {cs : Option Nat} {ys : List Int} {g9 : Nat} {m : Nat} {i : Int} (h : Ok (gC36_32c vs T zs kk xs ss g4 g6 g7 gs o4 o6 o7 cs ys g9 m i)) : To eW32 77 10 (.block 6 (.loop (roundOf 6 f36))) (zipF [2,7,11,12,13] vs) T (gC36_32c vs T zs kk xs ss g4 g6 g7 gs o4 o6 o7 cs ys g9 m i).ex (gC36_32c vs T zs kk xs ss g4 g6 g7 gs o4 o6 o7 cs ys g9 m i).fm (gC36_32c vs T zs kk xs ss g4 g6 g7 gs o4 o6 o7 cs ys g9 m i).tab := by
  obtain ⟨hT, hv, h1, h2, h3, h4, _⟩ := h.h
  simp only [Con.h] at hT hv h1 h2 h3 h4
  injection hv with hv
  subst hT hv
  subst h1
  refine To.of (o := C36_32 i 0 cs ys g9 zs kk xs ss g4 g6 g7 gs o4 o6 o7) eW32_ok hmS (Nat.le_refl 10) OrcOk.nil rfl (C36_32_ok ?_) C36_32_ex (by rw [C36_32_fm]; simp only [addO_eq]; rfl) ?_
  · simp only [allP, Con.h, addO_eq, List.take_length, take_snoc, List.length_append, List.length_cons, List.length_nil, Nat.zero_add, Nat.le_refl, eq_self, true_and, and_true]
    omega
  · rw [C36_32_tab]
    simp only [addO_eq, List.take_length, take_snoc, List.length_append, List.length_cons, List.length_nil, Nat.zero_add]
    show _ = ([some ⟨.ints .i64 [7, 18, 3], 0, false, 3⟩, some ⟨.ints .i64 [17, 19, 10], 0, false, 3⟩, some ⟨.ints .i64 [2, 13, 22], 0, false, 3⟩, some ⟨.ints .i64 [6, 11, 25], 0, false, 3⟩, some ⟨.ints .u8 zs, g4, o4, 5⟩, some ⟨.agg [.int .i64 32, .int .i64 64, .int .i64 64, .slice 1 0 0 0 3 (some 3), .slice 1 1 0 0 3 (some 3), .slice 1 2 0 0 3 (some 3), .slice 1 3 0 0 3 (some 3)], 0, true, 54⟩, some ⟨.ints .u64 kk, g6, o6, 56⟩, some ⟨.ints .u8 xs, g7, o7, 5⟩, some ⟨.ints .u64 ss, gs, true, 56⟩, some ⟨.ints .u8 (ys ++ beLaw 4 (ss.getD i.toNat 0)), g9 + 4, true, 5⟩] : Tab)
    simp only [List.append_assoc]
    rfl
noncomputable def gC36_32 : List AVal → Tab → Out := fun vs T => gC36_32c vs T (xsAt T 4) (xsAt T 6) (xsAt T 7) (xsAt T 8) (gAt T 4) (gAt T 6) (gAt T 7) (gAt T 8) (owAt T 4) (owAt T 6) (owAt T 7) (capOf (vAt vs 1)) (xsAt T 9) (gAt T 9) (lenOf (vAt vs 2)) (iOf (vAt vs 3))
theorem gC36_32_ok : BlkOk eW32 f36 6 (.loop (roundOf 6 f36)) (blkS 10 [2,7,11,12,13] gC36_32) := blkS_ok fun vs T h => gC36_32c_ok h
noncomputable def O36_32 (i : Int) (m : Nat) (cs : Option Nat) (ys : List Int) (g9 : Nat) (zs kk xs ss : List Int) (g4 g6 g7 gs : Nat) (o4 o6 o7 : Bool) : Out := trim 9 10 [2,7,11,12] (run eW32 77 ⟨10, [(6, blkS 10 [2,7,11,12,13] gC36_32)]⟩ 400 (roundOf 4 f36) [(2, .var 5 0), (7, .slice 1 8 gs 0 8 cs), (11, .slice 1 9 g9 0 m none), (12, .int .i64 i)] [some ⟨.ints .i64 [7, 18, 3], 0, false, 3⟩, some ⟨.ints .i64 [17, 19, 10], 0, false, 3⟩, some ⟨.ints .i64 [2, 13, 22], 0, false, 3⟩, some ⟨.ints .i64 [6, 11, 25], 0, false, 3⟩, some ⟨.ints .u8 zs, g4, o4, 5⟩, some ⟨.agg [.int .i64 32, .int .i64 64, .int .i64 64, .slice 1 0 0 0 3 (some 3), .slice 1 1 0 0 3 (some 3), .slice 1 2 0 0 3 (some 3), .slice 1 3 0 0 3 (some 3)], 0, true, 54⟩, some ⟨.ints .u64 kk, g6, o6, 56⟩, some ⟨.ints .u8 xs, g7, o7, 5⟩, some ⟨.ints .u64 ss, gs, true, 56⟩, some ⟨.ints .u8 ys, g9, true, 5⟩] [some true])
theorem O36_32_ok {i : Int} {m : Nat} {cs : Option Nat} {ys : List Int} {g9 : Nat} {zs kk xs ss : List Int} {g4 g6 g7 gs : Nat} {o4 o6 o7 : Bool} (h : allP [.p (decide (i < 8) = true), .eqN m ys.length, .rng 0 i 7, .eqN ss.length 8, .leN (ys.length + 4) 140737488355328, .rng (-9223372036854775808) (i + 1) 9223372036854775807]) : Ok (O36_32 i m cs ys g9 zs kk xs ss g4 g6 g7 gs o4 o6 o7) := Ok.dem
 (fl := bitsF 12 30) (by kernel_rfl) (by kernel_rfl) (by kernel_rfl) h
theorem O36_32_ex {i : Int} {m : Nat} {cs : Option Nat} {ys : List Int} {g9 : Nat} {zs kk xs ss : List Int} {g4 g6 g7 gs : Nat} {o4 o6 o7 : Bool} : (O36_32 i m cs ys g9 zs kk xs ss g4 g6 g7 gs o4 o6 o7).ex = .normal := by kernel_rfl
theorem O36_32_fm {i : Int} {m : Nat} {cs : Option Nat} {ys : List Int} {g9 : Nat} {zs kk xs ss : List Int} {g4 g6 g7 gs : Nat} {o4 o6 o7 : Bool} : (O36_32 i m cs ys g9 zs kk xs ss g4 g6 g7 gs o4 o6 o7).fm = [(2, .var 5 0), (7, .slice 1 8 gs 0 8 cs), (11, .slice 1 9 (g9 + 4) 0 (m + 4) none), (12, .int .i64 (i + 1))] := by kernel_rfl
theorem O36_32_tab {i : Int} {m : Nat} {cs : Option Nat} {ys : List Int} {g9 : Nat} {zs kk xs ss : List Int} {g4 g6 g7 gs : Nat} {o4 o6 o7 : Bool} : (O36_32 i m cs ys g9 zs kk xs ss g4 g6 g7 gs o4 o6 o7).tab = [some ⟨.ints .i64 [7, 18, 3], 0, false, 3⟩, some ⟨.ints .i64 [17, 19, 10], 0, false, 3⟩, some ⟨.ints .i64 [2, 13, 22], 0, false, 3⟩, some ⟨.ints .i64 [6, 11, 25], 0, false, 3⟩, some ⟨.ints
 .u8 zs, g4, o4, 5⟩, some ⟨.agg [.int .i64 32, .int .i64 64, .int .i64 64, .slice 1 0 0 0 3 (some 3), .slice 1 1 0 0 3 (some 3), .slice 1 2 0 0 3 (some 3), .slice 1 3 0 0 3 (some 3)], 0, true, 54⟩, some ⟨.ints .u64 kk, g6, o6, 56⟩, some ⟨.ints .u8 xs, g7, o7, 5⟩, some ⟨.ints .u64 ss, gs, true, 56⟩, some ⟨.ints .u8 (ys ++ beLaw 4 (ss.getD i.toNat 0)), g9 + 4, true, 5⟩] := by kernel_rfl
noncomputable def P36_32 (i : Int) (m : Nat) (cs : Option Nat) (ys : List Int) (g9 : Nat) (zs kk xs ss : List Int) (g4 g6 g7 gs : Nat) (o4 o6 o7 : Bool) : Out := trim 9 10 [11] (run eW32 77 ⟨10, [(6, blkS 10 [2,7,11,12,13] gC36_32)]⟩ 400 (roundOf 4 f36) [(2, .var 5 0), (7, .slice 1 8 gs 0 8 cs), (11, .slice 1 9 g9 0 m none), (12, .int .i64 i)] [some ⟨.ints .i64 [7, 18, 3], 0, false, 3⟩, some ⟨.ints .i64 [17, 19, 10], 0, false, 3⟩, some ⟨.ints .i64 [2, 13, 22], 0, false, 3⟩, some ⟨.ints .i64 [6, 11, 25], 0, false, 3⟩, some ⟨.ints .u8 zs, g4, o4, 5⟩, some ⟨.agg [.int .i64 32, .int .i64 64, .int .i64 64, .slice 1 0 0 0 3 (some 3), .slice 1 1 0 0 3 (some 3), .slice 1 2 0 0 3 (some 3), .slice 1 3 0 0 3 (some 3)], 0, true, 54⟩, some ⟨.ints .u64 kk, g6, o6, 56⟩, some ⟨.ints .u8 xs, g7, o7, 5⟩, some ⟨.ints .u64 ss, gs, true, 56⟩, some ⟨.ints .u8 ys, g9, true, 5⟩] [some false])
theorem P36_32_ok {i : Int} {m : Nat} {cs : Option Nat} {ys : List Int} {g9 : Nat} {zs kk xs ss : List Int} {g4 g6 g7 gs : Nat} {o4 o6 o7 : Bool} (h : allP [.p (decide (i < 8) = false)]) : Ok (P36_32 i m cs ys g9 zs kk xs ss g4 g6 g7 gs o4 o6 o7) := Ok.dem (fl := [false]) (by kernel_rfl) (by kernel_rfl) (by kernel_rfl) h
theorem P36_32_ex {i : Int} {m : Nat} {cs : Option Nat} {ys : List Int} {g9 : Nat} {zs kk xs ss : List Int} {g4 g6 g7 gs : Nat} {o4 o6 o7 : Bool} : (P36_32 i m cs ys g9 zs kk xs ss g4 g6 g7 gs o4 o6 o7).ex = .exit 4 := by kernel_rfl
theorem P36_32_fm {i : Int} {m : Nat} {cs : Option Nat} {ys : List Int} {g9 : Nat} {zs kk xs ss : List Int} {g4 g6 g7 gs : Nat} {o4 o6 o7 : Bool} : (P36_32 i m cs ys g9 zs kk xs ss g4 g6 g7 gs o4 o6 o7).fm = [(11, .slice 1 9 g9 0 m none)] := by kernel_rfl
theorem P36_32_tab {i : Int} {m : Nat} {cs : Option Nat} {ys : List Int} {g9 : Nat} {zs kk xs ss : List Int} {g4 g6 g7 gs : Nat} {o4 o6 o7 : Bool} : (P36_32 i m cs ys g9 zs kk xs ss g4 g6 g7 gs o4 o6 o7).tab = [some ⟨.ints .i64 [7, 18, 3], 0, false, 3⟩, some ⟨.ints .i64 [17, 19, 10], 0, false, 3⟩, some ⟨.ints .i64 [2, 13, 22], 0, false, 3⟩, some ⟨.ints .i64 [6, 11, 25], 0, false, 3⟩, some ⟨.ints
 .u8 zs, g4, o4, 5⟩, some ⟨.agg [.int .i64 32, .int .i64 64, .int .i64 64, .slice 1 0 0 0 3 (some 3), .slice 1 1 0 0 3 (some 3), .slice 1 2 0 0 3 (some 3), .slice 1 3 0 0 3 (some 3)], 0, true, 54⟩, some ⟨.ints .u64 kk, g6, o6, 56⟩, some ⟨.ints .u8 xs, g7, o7, 5⟩, some ⟨.ints .u64 ss, gs, true, 56⟩, some ⟨.ints .u8 ys, g9, true, 5⟩] := by kernel_rfl
end Go.Abs

set_option linter.unusedVariables false
set_option linter.unusedSimpArgs false
set_option maxRecDepth 8000
set_option maxHeartbeats 4000000
namespace Go.Abs
open Go.Proofs Go.Proofs.Tryd
/-! ### the document's sum -/
/-! width 32 -/
def FO36_32 (gs : Nat) (cs : Option Nat) (i : Nat) : Fm := [(2, .var 5 0), (7, .slice 1 8 gs 0 8 cs), (11, .slice 1 9 (4 * i) 0 (4 * i) none), (12, .int .i64 i)]
def TO36_32 (zs kk xs ss : List Int) (g4 g6 g7 gs : Nat) (o4 o6 o7 : Bool) (ys : List Int) (g9 : Nat) : Tab := [some ⟨.ints .i64 [7, 18, 3], 0, false, 3⟩, some ⟨.ints .i64 [17, 19, 10], 0, false, 3⟩, some ⟨.ints .i64 [2, 13, 22], 0, false, 3⟩, some ⟨.ints .i64 [6, 11, 25], 0, false, 3⟩, some ⟨.ints .u8 zs, g4, o4, 5⟩, some ⟨.agg [.int .i64 32, .int .i64 64, .int .i64 64, .slice 1 0 0 0 3 (some 3), .slice 1 1 0 0 3 (some 3), .slice 1 2 0 0 3 (some 3), .slice 1 3 0 0 3 (some 3)], 0, true, 54⟩, some ⟨.ints .u64 kk, g6, o6, 56⟩, some ⟨.ints .u8 xs, g7, o7, 5⟩, some ⟨.ints .u64 ss, gs, true, 56⟩, some ⟨.ints .u8 ys, g9, true, 5⟩]
theorem loopO36_32 {zs kk xs ss : List Int} {g4 g6 g7 gs : Nat} {o4 o6 o7 : Bool} {cs : Option Nat} (hs : ss.length = 8) :
    To eW32 77 9 (.block 4 (.loop (roundOf 4 f36))) (FO36_32 gs cs 0) (TO36_32 zs kk xs ss g4 g6 g7 gs o4 o6 o7 (bysLaw 4 ss 0) 0) .normal [(11, .slice 1 9 32 0 32 none)] (TO36_32 zs kk xs ss g4 g6 g7 gs o4 o6 o7 (bysLaw 4 ss 8) 32) := by
  have hO : OrcOk eW32 77 ⟨10, [(6, blkS 10 [2,7,11,12,13] gC36_32)]⟩ (roundOf 4 f36) := OrcOk.cons (fn := f36) gC36_32_ok (by kernel_rfl) OrcOk.nil
  refine To.rounds (FO36_32 gs cs) (fun i => TO36_32 zs kk xs ss g4 g6 g7 gs o4 o6 o7 (bysLaw 4 ss i) (4 * i)) 8 (fun i hi => ?_)
    (To.of (o := P36_32 (8 : Nat) 32 cs (bysLaw 4 ss 8) 32 zs kk xs ss g4 g6 g7 gs o4 o6 o7) eW32_ok hmS (by decide) hO rfl (P36_32_ok (by simp [allP, Con.h])) P36_32_ex P36_32_fm P36_32_tab)
  have hl := bys_len 4 ss i
  refine To.of (o := O36_32 i (4 * i) cs (bysLaw 4 ss i) (4 * i) zs kk xs ss g4 g6 g7 gs o4 o6 o7) eW32_ok hmS (by decide) hO rfl (O36_32_ok ?_) O36_32_ex (by rw [O36_32_fm]; rfl) ?_
  · simp only [allP, Con.h, hl, hs, decide_eq_true_eq, eq_self, true_and, and_true]
    omega
  · rw [O36_32_tab, Int.toNat_natCast]
    rfl
noncomputable def gO36_32c (vs : List AVal) (T : Tab) (zs : List Int) (kk : List Int) (xs : List Int) (ss : List Int) (g4 : Nat) (g6 : Nat) (g7 : Nat) (gs : Nat) (o4 : Bool) (o6 : Bool) (o7 : Bool) (cs : Option Nat) : Out := ⟨[.tab T [some ⟨.ints .i64 [7, 18, 3], 0, false, 3⟩, some ⟨.ints .i64 [17, 19, 10], 0, false, 3⟩, some ⟨.ints .i64 [2, 13, 22], 0, false, 3⟩, some ⟨.ints .i64 [6, 11, 25], 0, false, 3⟩, some ⟨.ints .u8 zs, g4, o4, 5⟩, some ⟨.agg [.int .i64 32, .int .i64 64, .int .i64 64, .slice 1 0 0 0 3 (some 3), .slice 1 1 0 0 3 (some 3), .slice 1 2 0 0 3 (some 3), .slice 1 3 0 0 3 (some 3)], 0, true, 54⟩, some ⟨.ints .u64 kk, g6, o6, 56⟩, some ⟨.ints .u8 xs, g7, o7, 5⟩, some ⟨.ints .u64 ss, gs, true, 56⟩], .val (.tuple vs) (.tuple [.var 5 0, .slice 1 8 gs 0 8 cs, .nilSlice, .int .i64 0]), .eqN ss.length 8], .normal, [(11, .slice 1 9 32 0 32 none)], [some ⟨.ints .i64 [7, 18, 3], 0, false, 3⟩, some ⟨.ints .i64 [17, 19, 10], 0, false, 3⟩, some ⟨.ints .i64 [2, 13, 22], 0, false, 3⟩, some ⟨.ints .i64 [6, 11, 25], 0, false, 3⟩, some ⟨.ints .u8 zs, g4, o4, 5⟩, some ⟨.agg [.int .i64 32, .int .i64 64, .int .i64 64, .slice 1 0 0 0 3 (some 3), .slice 1 1 0 0 3 (some 3), .slice 1 2 0 0 3 (some 3), .slice 1 3 0 0 3 (some 3)], 0, true, 54⟩, some ⟨.ints .u64 kk, g6, o6, 56⟩, some ⟨.ints .u8 xs, g7, o7, 5⟩, some ⟨.ints .u64 ss, gs, true, 56⟩, some ⟨.ints .u8 (bysLaw 4 ss 8), 32, true, 5⟩], []⟩
theorem gO36_32c_ok {vs : List AVal} {T : Tab} {zs : List Int} {kk : List Int} {xs : List Int} {ss : List Int} {g4 : Nat} {g6 : Nat} {g7 : Nat} {gs : Nat} {o4 : Bool} {o6 : Bool} {o7 : Bool} {cs : Option Nat} (h : Ok (gO36_32c vs T zs kk xs ss g4 g6 g7 gs o4 o6 o7 cs)) : To eW32 77 9 (.block 4 (.loop (roundOf 4 f36))) (zipF [2,7,11,12] vs) T (gO36_32c vs T zs kk xs ss g4 g6 g7 gs o4 o6 o7 cs).ex (gO36_32c vs T zs kk xs ss g4 g6 g7 gs o4 o6 o7 cs).fm (gO36_32c vs T zs kk xs ss g4 g6 g7 gs o4 o6 o7 cs).tab := by
  obtain ⟨hT, hv, h1, _⟩ := h.h
  simp only [Con.h] at hT hv h1
  injection hv with hv
  subst hT hv
  refine AWp.nilTo (FO36_32 gs cs 0) .u8 5 (fun t v hv => ?_) (loopO36_32 h1)
  simp only [FO36_32, look, zipF] at hv ⊢
  repeat' split at hv
  all_goals first | cases hv | skip
  all_goals first | rfl | simp_all [look]
noncomputable def gO36_32 : List AVal → Tab → Out := fun vs T => gO36_32c vs T (xsAt T 4) (xsAt T 6) (xsAt T 7) (xsAt T 8) (gAt T 4) (gAt T 6) (gAt T 7) (gAt T 8) (owAt T 4) (owAt T 6) (owAt T 7) (capOf (vAt vs 1))
theorem gO36_32_ok : BlkOk eW32 f36 4 (.loop (roundOf 4 f36)) (blkS 9 [2,7,11,12] gO36_32) := blkS_ok fun vs T h => gO36_32c_ok h
noncomputable def orc36_32 : OrcL := [(2, blkGC 5 [0,1,2,3,4,5,6,17,9] [2,5,7,9,10] gA36_32), (4, blkS 9 [2,7,11,12] gO36_32)]
theorem orc36_32_ok : FnOrc eW32 f36 orc36_32 := FnOrc.cons gA36_32_ok (by kernel_rfl) (FnOrc.cons gO36_32_ok (by kernel_rfl) FnOrc.nil)
noncomputable def R36_32 (zs : List Int) (g4 off n : Nat) (cp : Option Nat) : Res := resG 5 [0, 1, 2, 3, 4, 9] (runF eW32 f36 orc36_32 1000 [.agg [.int .i64 32, .int .i64 64, .int .i64 64, .slice 1 0 0 0 3 (some 3), .slice 1 1 0 0 3 (some 3), .slice 1 2 0 0 3 (some 3), .slice 1 3 0 0 3 (some 3)], .slice 1 4 g4 off n cp] [some ⟨.ints .i64 [7, 18, 3], 0, false, 3⟩, some ⟨.ints .i64 [17, 19, 10], 0, false, 3⟩, some ⟨.ints .i64 [2, 13, 22], 0, false, 3⟩, some ⟨.ints .i64 [6, 11, 25], 0, false, 3⟩, some ⟨.ints .u8 zs, g4, false, 5⟩] [])
theorem R36_32_ok {zs : List Int} {g4 off n : Nat} {cp : Option Nat} (h : allP [.eqN g4 g4, .leN (off + n) zs.length, .leN n 140737488355000, .eqN (n + 1 + padLaw 64 (n + 1) + 8) (fillLaw 64 (subLaw zs off n)).length, .p (isCubesLaw [4794697086780616226, 8158064640168781261, 13096744586834688815, 16840607885511220156, 4131703408338449720, 6480981068601479193, 10538285296894168987,
 12329834152419229976, 15566598209576043074, 1334009975649890238, 2608012711638119052, 6128411473006802146, 8268148722764581231, 9286055187155687089, 11230858885718282805, 13951009754708518548, 16472876342353939154, 17275323862435702243, 1135362057144423861, 2597628984639134821, 3308224258029322869, 5365058923640841347, 6679025012923562964, 8573033837759648693, 10970295158949994411,
 12119686244451234320, 12683024718118986047, 13788192230050041572, 14330467153632333762, 15395433587784984357, 489312712824947311, 1452737877330783856, 2861767655752347644, 3322285676063803686, 5560940570517711597, 5996557281743188959, 7280758554555802590, 8532644243296465576, 9350256976987008742, 10552545826968843579, 11727347734174303076, 12113106623233404929, 14000437183269869457,
 14369950271660146224, 15101387698204529176, 15463397548674623760, 17586052441742319658, 1182934255886127544, 1847814050463011016, 2177327727835720531, 2830643537854262169, 3796741975233480872, 4115178125766777443, 5681478168544905931, 6601373596472566643, 7507060721942968483, 8399075790359081724, 8693463985226723168, 9568029438360202098, 10144078919501101548, 10430055236837252648,
 11840083180663258601, 13761210420658862357, 14299343276471374635, 14566680578165727644, 15097957966210449927, 16922976911328602910, 17689382322260857208, 500013540394364858, 748580250866718886, 1242879168328830382, 1977374033974150939, 2944078676154940804, 3659926193048069267, 4368137639120453308, 4836135668995329356, 5532061633213252278, 6448918945643986474, 6902733635092675308,
 7801388544844847127]), .eqN ((fillLaw 64 (subLaw zs off n)).length % 64) 0, .leN 1 (fillLaw 64 (subLaw zs off n)).length, .leN (fillLaw 64 (subLaw zs off n)).length 140737488355328, .p (BsLaw (fillLaw 64 (subLaw zs off n))), .p (WdsLaw 32 [1779033703, 3144134277, 1013904242, 2773480762, 1359893119, 2600822924, 528734635, 1541459225]), .eqN (stl32Law (fillLaw 64 (subLaw zs off n)) [1779033703,
 3144134277, 1013904242, 2773480762, 1359893119, 2600822924, 528734635, 1541459225]).length 8]) : OkR (R36_32 zs g4 off n cp) := OkR.dem (fl := bitsF 392 315254376611790546380053958235182707860228557227515329200735770823137957719279333810317123054630908859391962330955775) (by kernel_rfl) (by kernel_rfl) (by kernel_rfl) h
theorem R36_32_val {zs : List Int} {g4 off n : Nat} {cp : Option Nat} : (R36_32 zs g4 off n cp).val = .slice 1 5 32 0 32 none := by kernel_rfl
theorem R36_32_tab {zs : List Int} {g4 off n : Nat} {cp : Option Nat} : (R36_32 zs g4 off n cp).tab = [some ⟨.ints .i64 [7, 18, 3], 0, false, 3⟩, some ⟨.ints .i64 [17, 19, 10], 0, false, 3⟩, some ⟨.ints .i64 [2, 13, 22], 0, false, 3⟩, some ⟨.ints .i64 [6, 11, 25], 0, false, 3⟩, some ⟨.ints .u8 zs, g4, false, 5⟩, some ⟨.ints .u8 (bysLaw 4 (stl32Law (fillLaw 64 (subLaw zs off n)) [1779033703,
 3144134277, 1013904242, 2773480762, 1359893119, 2600822924, 528734635, 1541459225]) 8), 32, true, 5⟩] := by kernel_rfl
end Go.Abs

set_option linter.unusedVariables false
set_option linter.unusedSimpArgs false
set_option maxRecDepth 8000
set_option maxHeartbeats 4000000
namespace Go.Abs
open Go.Proofs Go.Proofs.Tryd
/-! ### the sums of both -/
/-! width 32 -/
theorem bys32_eq (xs : List Int) : bysLaw 4 (stl32Law (fillLaw 64 xs) [1779033703, 3144134277, 1013904242, 2773480762, 1359893119, 2600822924, 528734635, 1541459225]) 8 = sum32Law xs := rfl
noncomputable def sm36_32c (args : List AVal) (T : Tab) (zs : List Int) (g4 : Nat) (off : Nat) (n : Nat) (cp : Option Nat) : Res := ⟨[.tab T [some ⟨.ints .i64 [7, 18, 3], 0, false, 3⟩, some ⟨.ints .i64 [17, 19, 10], 0, false, 3⟩, some ⟨.ints .i64 [2, 13, 22], 0, false, 3⟩, some ⟨.ints .i64 [6, 11, 25], 0, false, 3⟩, some ⟨.ints .u8 zs, g4, false, 5⟩], .val (.tuple args) (.tuple [.agg [.int .i64 32, .int .i64 64, .int .i64 64, .slice 1 0 0 0 3 (some 3), .slice 1 1 0 0 3 (some 3), .slice 1 2 0 0 3 (some 3), .slice 1 3 0 0 3 (some 3)], .slice 1 4 g4 off n cp]), .leN (off + n) zs.length, .leN n 140737488355000, .p (BsLaw zs)], .slice 1 5 32 0 32 none, [some ⟨.ints .i64 [7, 18, 3], 0, false, 3⟩, some ⟨.ints .i64 [17, 19, 10], 0, false, 3⟩, some ⟨.ints .i64 [2, 13, 22], 0, false, 3⟩, some ⟨.ints .i64 [6, 11, 25], 0, false, 3⟩, some ⟨.ints .u8 zs, g4, false, 5⟩, some ⟨.ints .u8 (sum32Law (subLaw zs off n)), 32, true, 5⟩]⟩
theorem sm36_32c_ok {args : List AVal} {T : Tab} {zs : List Int} {g4 : Nat} {off : Nat} {n : Nat} {cp : Option Nat} (h : allP (sm36_32c args T zs g4 off n cp).cs) : Small prog glS 36 args T (sm36_32c args T zs g4 off n cp).val (sm36_32c args T zs g4 off n cp).tab := by
  obtain ⟨hT, hv, h1, h2, h3, _⟩ := h
  simp only [Con.h] at hT hv h1 h2 h3
  injection hv with hv
  subst hT hv
  refine small_ofG (R := R36_32 zs g4 off n cp) (keep := [0, 1, 2, 3, 4, 9]) eW32_ok hmS (f := 36) (fn := f36) (by kernel_rfl) (by kernel_rfl) orc36_32_ok rfl (R36_32_ok ?_) R36_32_val (by rw [R36_32_tab, bys32_eq]; rfl)
  have hl := subLaw_len h1
  have hf := fill_len 64 (subLaw zs off n)
  rw [hl] at hf
  have hq := pad64_le (n + 1)
  have hmod := fill64_mod (subLaw zs off n)
  have hb : BsLaw (fillLaw 64 (subLaw zs off n)) := fill_bs (h3.sub off n)
  have hws : WdsLaw 32 [1779033703, 3144134277, 1013904242, 2773480762, 1359893119, 2600822924, 528734635, 1541459225] := .cons ⟨by decide, by decide⟩ (.cons ⟨by decide, by decide⟩ (.cons ⟨by decide, by decide⟩ (.cons ⟨by decide, by decide⟩ (.cons ⟨by decide, by decide⟩ (.cons ⟨by decide, by decide⟩ (.cons ⟨by decide, by decide⟩ (.cons ⟨by decide, by decide⟩ (.nil 32))))))))
  have hc : isCubesLaw cubesLaw := rfl
  have hst : (stl32Law (fillLaw 64 (subLaw zs off n)) [1779033703, 3144134277, 1013904242, 2773480762, 1359893119, 2600822924, 528734635, 1541459225]).length = 8 := stsLaw32_len rfl _
  unfold cubesLaw at hc
  simp only [allP, Con.h, hb, hws, hc, hst, hmod, eq_self, true_and, and_true]
  omega
noncomputable def sm36_32 : Summary := fun args T => sm36_32c args T (xsAt T 4) (gAt T 4) (offOf (vAt args 1)) (lenOf (vAt args 1)) (capOf (vAt args 1))
theorem sm36_32_ok : SmOk prog glS 36 sm36_32 := fun args T h => sm36_32c_ok h
noncomputable def S36_32 : Summary := callR sm36_32 []
theorem S36_32_ok : SumOk prog glS 36 S36_32 := callR_ok sm36_32_ok []
noncomputable def S33c : Summary := callR sm33 []
theorem S33c_ok : SumOk prog glS 33 S33c := callR_ok sm33_ok []
noncomputable def S34 : Summary := sumI modeO (eS0 []) f34 [] 200 [] []
theorem S34_ok : SumOk prog glS 34 S34 := sumI_ok eS0_ok hmS (fn := f34) (by kernel_rfl) (by kernel_rfl) [] FnOrc.nil 200 [] []
noncomputable def S35 : Summary := sumI modeO (eS0 []) f35 [] 200 [] []
theorem S35_ok : SumOk prog glS 35 S35 := sumI_ok eS0_ok hmS (fn := f35) (by kernel_rfl) (by kernel_rfl) [] FnOrc.nil 200 [] []
noncomputable def eY32 : Env := eS0 [(34, S34), (33, S33c)]
theorem eY32_ok : EnvOk eY32 := envOf_ok tysS_ok (SumsOk.cons (fn := f34) S34_ok (by kernel_rfl) (by kernel_rfl) (by kernel_rfl) (SumsOk.cons (fn := f33) S33c_ok (by kernel_rfl) (by kernel_rfl) (by kernel_rfl) trivial))
noncomputable def eZ32 : Env := eS0 [(35, S35), (36, S36_32)]
theorem eZ32_ok : EnvOk eZ32 := envOf_ok tysS_ok (SumsOk.cons (fn := f35) S35_ok (by kernel_rfl) (by kernel_rfl) (by kernel_rfl) (SumsOk.cons (fn := f36) S36_32_ok (by kernel_rfl) (by kernel_rfl) (by kernel_rfl) trivial))
noncomputable def R13 (off n g : Nat) (zs : List Int) (cp : Option Nat) : Res := resG 1 [0, 1] (runF eY32 f13 [] 200 [.slice 1 0 g off n cp] [some ⟨.ints .u8 zs, g, false, 5⟩] [])
theorem R13_ok {off n g : Nat} {zs : List Int} {cp : Option Nat} (h : allP [.eqN g g, .p (isPl32Law [32, 64, 7, 18, 3, 17, 19, 10, 2, 13, 22, 6, 11, 25]), .eqN g g, .leN (off + n) zs.length, .p (BsLaw zs), .leN n 140737488355000, .p (capLaw n cp)]) : OkR (R13 off n g zs cp) := OkR.dem (fl := bitsF 49 4398046511103) (by kernel_rfl) (by kernel_rfl) (by kernel_rfl) h
theorem R13_val {off n g : Nat} {zs : List Int} {cp : Option Nat} : (R13 off n g zs cp).val = .slice 1 1 31 0 32 none := by kernel_rfl
theorem R13_tab {off n g : Nat} {zs : List Int} {cp : Option Nat} : (R13 off n g zs cp).tab = [some ⟨.ints .u8 zs, g, false, 5⟩, some ⟨.ints .u8 (sum32Law (subLaw zs off n)), 31, true, 5⟩] := by kernel_rfl
noncomputable def R14 (off n g : Nat) (zs : List Int) (cp : Option Nat) : Res := resG 1 [0, 6] (runF eZ32 f14 [] 200 [.slice 1 0 g off n cp] [some ⟨.ints .u8 zs, g, false, 5⟩] [])
theorem R14_ok {off n g : Nat} {zs : List Int} {cp : Option Nat} (h : allP [.eqN g g, .leN (off + n) zs.length, .leN n 140737488355000, .p (BsLaw zs)]) : OkR (R14 off n g zs cp) := OkR.dem (fl := bitsF 64 288230376151711743) (by kernel_rfl) (by kernel_rfl) (by kernel_rfl) h
theorem R14_val {off n g : Nat} {zs : List Int} {cp : Option Nat} : (R14 off n g zs cp).val = .slice 1 1 32 0 32 none := by kernel_rfl
theorem R14_tab {off n g : Nat} {zs : List Int} {cp : Option Nat} : (R14 off n g zs cp).tab = [some ⟨.ints .u8 zs, g, false, 5⟩, some ⟨.ints .u8 (sum32Law (subLaw zs off n)), 32, true, 5⟩] := by kernel_rfl
end Go.Abs

set_option linter.unusedVariables false
set_option linter.unusedSimpArgs false
set_option maxRecDepth 8000
set_option maxHeartbeats 4000000
namespace Go.Abs
open Go.Proofs Go.Proofs.Tryd
/-! ### the sums of both: contracts; the laws' helpers -/
theorem capLaw_none (n : Nat) : capLaw n none := fun c h => by cases h
theorem capLaw_some {n c : Nat} (h : n ≤ c) : capLaw n (some c) := fun k h2 => by injection h2 with h2; omega
noncomputable def sm13c (args : List AVal) (T : Tab) (zs : List Int) (g : Nat) (off : Nat) (n : Nat) (cp : Option Nat) : Res := ⟨[.tab T [some ⟨.ints .u8 zs, g, false, 5⟩], .val (.tuple args) (.tuple [.slice 1 0 g off n cp]), .leN (off + n) zs.length, .leN n 140737488355000, .p (BsLaw zs), .p (capLaw n cp)], .slice 1 1 31 0 32 none, [some ⟨.ints .u8 zs, g, false, 5⟩, some ⟨.ints .u8 (sum32Law (subLaw zs off n)), 31, true, 5⟩]⟩
theorem sm13c_ok {args : List AVal} {T : Tab} {zs : List Int} {g : Nat} {off : Nat} {n : Nat} {cp : Option Nat} (h : allP (sm13c args T zs g off n cp).cs) : Small prog glS 13 args T (sm13c args T zs g off n cp).val (sm13c args T zs g off n cp).tab := by
  obtain ⟨hT, hv, h1, h2, h3, h4, _⟩ := h
  simp only [Con.h] at hT hv h1 h2 h3 h4
  injection hv with hv
  subst hT hv
  refine small_ofG (R := R13 off n g zs cp) (keep := [0, 1]) eY32_ok hmS (f := 13) (fn := f13) (by kernel_rfl) (by kernel_rfl) FnOrc.nil rfl (R13_ok ?_) R13_val R13_tab
  have hp : isPl32Law [32, 64, 7, 18, 3, 17, 19, 10, 2, 13, 22, 6, 11, 25] := rfl
  simp only [allP, Con.h, hp, h1, h2, h3, h4, eq_self, true_and, and_true]
noncomputable def sm13 : Summary := fun args T => sm13c args T (xsAt T 0) (gAt T 0) (offOf (vAt args 0)) (lenOf (vAt args 0)) (capOf (vAt args 0))
theorem sm13_ok : SmOk prog glS 13 sm13 := fun args T h => sm13c_ok h
noncomputable def sm14c (args : List AVal) (T : Tab) (zs : List Int) (g : Nat) (off : Nat) (n : Nat) (cp : Option Nat) : Res := ⟨[.tab T [some ⟨.ints .u8 zs, g, false, 5⟩], .val (.tuple args) (.tuple [.slice 1 0 g off n cp]), .leN (off + n) zs.length, .leN n 140737488355000, .p (BsLaw zs)], .slice 1 1 32 0 32 none, [some ⟨.ints .u8 zs, g, false, 5⟩, some ⟨.ints .u8 (sum32Law (subLaw zs off n)), 32, true, 5⟩]⟩
theorem sm14c_ok {args : List AVal} {T : Tab} {zs : List Int} {g : Nat} {off : Nat} {n : Nat} {cp : Option Nat} (h : allP (sm14c args T zs g off n cp).cs) : Small prog glS 14 args T (sm14c args T zs g off n cp).val (sm14c args T zs g off n cp).tab := by
  obtain ⟨hT, hv, h1, h2, h3, _⟩ := h
  simp only [Con.h] at hT hv h1 h2 h3
  injection hv with hv
  subst hT hv
  refine small_ofG (R := R14 off n g zs cp) (keep := [0, 6]) eZ32_ok hmS (f := 14) (fn := f14) (by kernel_rfl) (by kernel_rfl) FnOrc.nil rfl (R14_ok ?_) R14_val R14_tab
  simp only [allP, Con.h, h1, h2, h3, eq_self, true_and, and_true]
noncomputable def sm14 : Summary := fun args T => sm14c args T (xsAt T 0) (gAt T 0) (offOf (vAt args 0)) (lenOf (vAt args 0)) (capOf (vAt args 0))
theorem sm14_ok : SmOk prog glS 14 sm14 := fun args T h => sm14c_ok h
noncomputable def S13 : Summary := callR sm13 []
theorem S13_ok : SumOk prog glS 13 S13 := callR_ok sm13_ok []
noncomputable def S14 : Summary := callR sm14 []
theorem S14_ok : SumOk prog glS 14 S14 := callR_ok sm14_ok []
noncomputable def R12 (zs : List Int) (g off n : Nat) (cp : Option Nat) (ow : Bool) : Res := runF (eS0 []) f12 [] 100 [.slice 1 0 g off n cp] [some ⟨.ints .u8 zs, g, ow, 5⟩] []
theorem R12_ok {zs : List Int} {g off n : Nat} {cp : Option Nat} {ow : Bool} (h : allP [.leN n 140737488355328, .eqN g g, .leN (off + n) zs.length, .leN (0 + n) ([] ++ List.take n (dropO off zs)).length, .leN (addO n 2) 140737488355328, .eqN g g, .leI 0 (↑n : Int), .leN 0 n, .orN n (addO n 2) (0 + n) (List.take n ([] ++ List.take n (dropO off zs)) ++ [201, 202]).length]) : OkR (R12 zs g off n cp
 ow) := OkR.dem (fl := bitsF 23 1286087) (by kernel_rfl) (by kernel_rfl) (by kernel_rfl) h
theorem R12_val {zs : List Int} {g off n : Nat} {cp : Option Nat} {ow : Bool} : (R12 zs g off n cp ow).val = .slice 1 1 2 0 n none := by kernel_rfl
theorem R12_tab {zs : List Int} {g off n : Nat} {cp : Option Nat} {ow : Bool} : (R12 zs g off n cp ow).tab = [some ⟨.ints .u8 zs, g, ow, 5⟩, some ⟨.ints .u8 (List.take n ([] ++ List.take n (dropO off zs)) ++ [201, 202]), 2, true, 5⟩, some ⟨.ints .u8 [201, 202], 0, true, 5⟩] := by kernel_rfl
noncomputable def R15 (xs zs : List Int) (g0 g1 n off : Nat) (cp : Option Nat) (o0 o1 : Bool) : Res := runF (eS0 []) f15 [] 200 [.slice 1 0 g0 0 n none, .slice 1 1 g1 off n cp] [some ⟨.ints .u8 xs, g0, o0, 5⟩, some ⟨.ints .u8 zs, g1, o1, 5⟩] [some true, some true, some true, some true, some true]
theorem R15_ok {xs zs : List Int} {g0 g1 n off : Nat} {cp : Option Nat} {o0 o1 : Bool} (h : allP [.eqN g1 g1, .rng (-9223372036854775808) ((↑n : Int) + 2) 9223372036854775807, .leI 0 ((↑n : Int) + 2), .eqN g0 g0, .leN 0 (n + 2), .orN (n + 2) n (0 + (n + 2)) xs.length, .eqN g1 g1, .leI 0 (↑n : Int), .eqN g0 g0, .leN 0 n, .orN n (n + 2) (0 + n) xs.length, .eqN g0 g0, .leN (0 + n) xs.length, .eqN g1
 g1, .leN (off + n) zs.length, .p ((List.map byteOf (List.take n xs) == List.map byteOf (List.take n (dropO off zs))) = true), .eqN g1 g1, .eqN g0 g0, .leI 0 (↑n : Int), .leI ((↑n : Int) + 1) (↑(n + 2) : Int), .eqN g0 g0, .leN (n + 1) xs.length, .p ((xs.getD n 0 == 201) = true), .eqN g1 g1, .rng (-9223372036854775808) ((↑n : Int) + 1) 9223372036854775807, .eqN g0 g0, .leI 0 ((↑n : Int) + 1), .leI
 ((↑n : Int) + 1 + 1) (↑(n + 2) : Int), .eqN g0 g0, .leN (n + 1 + 1) xs.length, .p ((xs.getD (n + 1) 0 == 202) = true)]) : OkR (R15 xs zs g0 g1 n off cp o0 o1) := OkR.dem (fl := bitsF 32 0) (by kernel_rfl) (by kernel_rfl) (by kernel_rfl) h
theorem R15_val {xs zs : List Int} {g0 g1 n off : Nat} {cp : Option Nat} {o0 o1 : Bool} : (R15 xs zs g0 g1 n off cp o0 o1).val = .bool true := by kernel_rfl
theorem R15_tab {xs zs : List Int} {g0 g1 n off : Nat} {cp : Option Nat} {o0 o1 : Bool} : (R15 xs zs g0 g1 n off cp o0 o1).tab = [some ⟨.ints .u8 xs, g0, o0, 5⟩, some ⟨.ints .u8 zs, g1, o1, 5⟩] := by kernel_rfl
end Go.Abs

set_option linter.unusedVariables false
set_option linter.unusedSimpArgs false
set_option maxRecDepth 8000
set_option maxHeartbeats 4000000
namespace Go.Abs
open Go.Proofs Go.Proofs.Tryd
/-! ### the laws of two sums -/
theorem sub_front {a b : List Int} {n : Nat} (h : a.length = n) : subLaw (a ++ b) 0 n = a := by
  unfold subLaw; rw [List.drop_zero, List.take_append_of_le_length (by omega), List.take_of_length_le (by omega)]
noncomputable def sm12c (args : List AVal) (T : Tab) (zs : List Int) (g : Nat) (off : Nat) (n : Nat) (cp : Option Nat) (ow : Bool) : Res := ⟨[.tab T [some ⟨.ints .u8 zs, g, ow, 5⟩], .val (.tuple args) (.tuple [.slice 1 0 g off n cp]), .leN (off + n) zs.length, .leN n 140737488355300], .slice 1 1 2 0 n none, [some ⟨.ints .u8 zs, g, ow, 5⟩, some ⟨.ints .u8 (subLaw zs off n ++ [201, 202]), 2, true, 5⟩]⟩
theorem sm12c_ok {args : List AVal} {T : Tab} {zs : List Int} {g : Nat} {off : Nat} {n : Nat} {cp : Option Nat} {ow : Bool} (h : allP (sm12c args T zs g off n cp ow).cs) : Small prog glS 12 args T (sm12c args T zs g off n cp ow).val (sm12c args T zs g off n cp ow).tab := by
  obtain ⟨hT, hv, h1, h2, _⟩ := h
  simp only [Con.h] at hT hv h1 h2
  injection hv with hv
  subst hT hv
  refine small_gc [0, 1] (small_of (R := R12 zs g off n cp ow) eS0_ok hmS (f := 12) (fn := f12) (by kernel_rfl) (by kernel_rfl) FnOrc.nil rfl (R12_ok ?_) R12_val R12_tab) rfl rfl rfl ?_
  · simp only [allP, Con.h, addO_eq, dropO_eq, List.nil_append, List.length_take, List.length_drop, List.length_append, List.length_cons, List.length_nil, eq_self, true_and, and_true]
    omega
  · have e : List.take n (subLaw zs off n) = subLaw zs off n := List.take_of_length_le (by rw [subLaw_len h1]; exact Nat.le_refl _)
    rw [dropO_eq, List.nil_append, show List.take n (List.take n (List.drop off zs)) = subLaw zs off n from e]
    rfl
noncomputable def sm12 : Summary := fun args T => sm12c args T (xsAt T 0) (gAt T 0) (offOf (vAt args 0)) (lenOf (vAt args 0)) (capOf (vAt args 0)) (owAt T 0)
theorem sm12_ok : SmOk prog glS 12 sm12 := fun args T h => sm12c_ok h
def lentLaw (xs ys : List Int) : Prop := xs = ys ++ [201, 202]
noncomputable def sm15c (args : List AVal) (T : Tab) (xs : List Int) (zs : List Int) (g0 : Nat) (g1 : Nat) (o0 : Bool) (o1 : Bool) (n : Nat) (off : Nat) (cp : Option Nat) (n1 : Nat) : Res := ⟨[.tab T [some ⟨.ints .u8 xs, g0, o0, 5⟩, some ⟨.ints .u8 zs, g1, o1, 5⟩], .val (.tuple args) (.tuple [.slice 1 0 g0 0 n none, .slice 1 1 g1 off n1 cp]), .eqN n1 n, .leN (off + n) zs.length, .leN n 140737488355300, .p (lentLaw xs (subLaw zs off n))], .bool true, [some ⟨.ints .u8 xs, g0, o0, 5⟩, some ⟨.ints .u8 zs, g1, o1, 5⟩]⟩
theorem sm15c_ok {args : List AVal} {T : Tab} {xs : List Int} {zs : List Int} {g0 : Nat} {g1 : Nat} {o0 : Bool} {o1 : Bool} {n : Nat} {off : Nat} {cp : Option Nat} {n1 : Nat} (h : allP (sm15c args T xs zs g0 g1 o0 o1 n off cp n1).cs) : Small prog glS 15 args T (sm15c args T xs zs g0 g1 o0 o1 n off cp n1).val (sm15c args T xs zs g0 g1 o0 o1 n off cp n1).tab := by
  obtain ⟨hT, hv, h1, h2, h3, h4, _⟩ := h
  simp only [Con.h] at hT hv h1 h2 h3 h4
  injection hv with hv
  subst hT hv
  subst h1
  have hl := subLaw_len h2
  have h4 : xs = subLaw zs off n1 ++ [201, 202] := h4
  subst h4
  refine small_of (R := R15 _ zs g0 g1 n1 off cp o0 o1) eS0_ok hmS (f := 15) (fn := f15) (by kernel_rfl) (by kernel_rfl) FnOrc.nil rfl (R15_ok ?_) R15_val R15_tab
  have e2 : List.take n1 (subLaw zs off n1 ++ [201, 202]) = subLaw zs off n1 := by rw [List.take_append_of_le_length (by omega), List.take_of_length_le (by omega)]
  have e5 : List.take n1 (List.drop off zs) = subLaw zs off n1 := rfl
  have e3 : (subLaw zs off n1 ++ [201, 202]).getD n1 0 = 201 := by
    rw [List.getD_eq_getElem?_getD, List.getElem?_append_right (by omega), hl]; simp
  have e4 : (subLaw zs off n1 ++ [201, 202]).getD (n1 + 1) 0 = 202 := by
    rw [List.getD_eq_getElem?_getD, List.getElem?_append_right (by omega), hl]; simp
  simp only [allP, Con.h, addO_eq, dropO_eq, e2, e3, e4, e5, hl, beq_self_eq_true, List.length_append, List.length_cons, List.length_nil, eq_self, true_and, and_true, Nat.zero_add]
  omega
noncomputable def sm15 : Summary := fun args T => sm15c args T (xsAt T 0) (xsAt T 1) (gAt T 0) (gAt T 1) (owAt T 0) (owAt T 1) (lenOf (vAt args 0)) (offOf (vAt args 1)) (capOf (vAt args 1)) (lenOf (vAt args 1))
theorem sm15_ok : SmOk prog glS 15 sm15 := fun args T h => sm15c_ok h
noncomputable def S12 : Summary := callR sm12 []
theorem S12_ok : SumOk prog glS 12 S12 := callR_ok sm12_ok []
noncomputable def S15 : Summary := callR sm15 []
theorem S15_ok : SumOk prog glS 15 S15 := callR_ok sm15_ok []
end Go.Abs

set_option linter.unusedVariables false
set_option linter.unusedSimpArgs false
set_option maxRecDepth 8000
namespace Go.Abs
open Go.Proofs Go.Proofs.Tryd
/-! ### bytes.Repeat -/
noncomputable def S69 : Summary := sumI modeO (eS0 []) f69 [] 200 [] []
theorem S69_ok : SumOk prog glS 69 S69 := sumI_ok eS0_ok hmS (fn := f69) (by kernel_rfl) (by kernel_rfl) [] FnOrc.nil 200 [] []
noncomputable def eR1 : Env := eS0 [(69, S69)]
theorem eR1_ok : EnvOk eR1 := envOf_ok tysS_ok (SumsOk.cons (fn := f69) S69_ok (by kernel_rfl) (by kernel_rfl) (by kernel_rfl) trivial)
noncomputable def S66 : Summary := sumI modeO eR1 f66 [] 200 [] []
theorem S66_ok : SumOk prog glS 66 S66 := sumI_ok eR1_ok hmS (fn := f66) (by kernel_rfl) (by kernel_rfl) [] FnOrc.nil 200 [] []
noncomputable def eR : Env := eS0 [(66, S66)]
theorem eR_ok : EnvOk eR := envOf_ok tysS_ok (SumsOk.cons (fn := f66) S66_ok (by kernel_rfl) (by kernel_rfl) (by kernel_rfl) trivial)
end Go.Abs

set_option linter.unusedVariables false
set_option linter.unusedSimpArgs false
set_option maxRecDepth 8000
namespace Go.Abs
open Go.Proofs Go.Proofs.Tryd
def opsOf : Code → Array Oper
  | .seq (.region _ o _) _ => o
  | _ => #[]
noncomputable def ops16 : Array Oper := opsOf (backC 9 (bodyOf f61))
noncomputable def rest16 : Code := backC 10 (bodyOf f61)
theorem split16 : backC 9 (bodyOf f61) = .seq (.region 16 ops16 false) rest16 := by kernel_rfl
def mapL (f : Nat → Int) (n : Nat) : List Int := (List.range n).map f
theorem mapL_of {zs : List Int} {n : Nat} (h : zs.length = n) : ∃ f, zs = mapL f n := by
  refine ⟨fun i => zs.getD i 0, ?_⟩
  subst h
  unfold mapL
  apply List.ext_getElem
  · simp
  · intro i h1 h2
    simp [List.getD_eq_getElem?_getD, h1]
noncomputable def P61 (x : Int) (g : Nat) (cp : Option Nat) : Out := runs eR 77 ⟨1, []⟩ 300 (frontC 9 (bodyOf f61)) (argF [.slice 1 0 g 0 1 cp, .int .i64 64] 0) [some ⟨.ints .u8 [x], g, false, 5⟩] []
theorem P61_ok {x : Int} {g : Nat} {cp : Option Nat} (h : allP [.eqN g g, .eqN g g]) : Ok (P61 x g cp) := Ok.dem (fl := bitsF 16 32766) (by kernel_rfl) (by kernel_rfl) (by kernel_rfl) h
theorem P61_ex {x : Int} {g : Nat} {cp : Option Nat} : (P61 x g cp).ex = .normal := by kernel_rfl
theorem P61_fm {x : Int} {g : Nat} {cp : Option Nat} : (P61 x g cp).fm = [(42, .bool false), (41, .int .i64 64), (8, .int .i64 64), (40, .int .i64 64), (38, .bool false), (37, .int .i64 1), (36, .slice 1 0 g 0 1 cp), (7, .int .i64 64), (35, .int .i64 64), (34, .int .u64 64), (32, .bool false), (31, .bool false), (30, .int .u64 64), (29, .bool false), (28, .bool false), (27, .int .u64 0), (6, .int
 .u64 64), (5, .int .u64 0), (26, .int .u64 64), (25, .int .u64 0), (18, .tuple [.int .u64 0, .int .u64 64]), (24, .tuple [.int .u64 0, .int .u64 64]), (23, .int .u64 64), (22, .int .i64 64), (21, .int .u64 1), (20, .int .i64 1), (19, .slice 1 0 g 0 1 cp), (16, .bool false), (15, .int .i64 64), (13, .bool false), (12, .int .i64 64), (4, .nilSlice), (0, .slice 1 0 g 0 1 cp), (1, .int .i64 64)] := by
 kernel_rfl
theorem P61_tab {x : Int} {g : Nat} {cp : Option Nat} : (P61 x g cp).tab = [some ⟨.ints .u8 [x], g, false, 5⟩] := by kernel_rfl
noncomputable def A61 (x : Int) (g : Nat) (cp : Option Nat) : Out := runOps eR ops16.toList 77 (ops16.toList.take 1) (P61 x g cp).fm ((P61 x g cp).tab ++ holes (cntA eR (ops16.toList.take 1))) (P61 x g cp).tab.length []
theorem A61_ok {x : Int} {g : Nat} {cp : Option Nat} (h : allP []) : Ok (A61 x g cp) := Ok.dem (fl := []) (by kernel_rfl) (by kernel_rfl) (by kernel_rfl) h
theorem A61_ex {x : Int} {g : Nat} {cp : Option Nat} : (A61 x g cp).ex = .normal := by kernel_rfl
theorem A61_fm {x : Int} {g : Nat} {cp : Option Nat} : (A61 x g cp).fm = [(53, .int .i64 64), (42, .bool false), (41, .int .i64 64), (8, .int .i64 64), (40, .int .i64 64), (38, .bool false), (37, .int .i64 1), (36, .slice 1 0 g 0 1 cp), (7, .int .i64 64), (35, .int .i64 64), (34, .int .u64 64), (32, .bool false), (31, .bool false), (30, .int .u64 64), (29, .bool false), (28, .bool false), (27, .int
 .u64 0), (6, .int .u64 64), (5, .int .u64 0), (26, .int .u64 64), (25, .int .u64 0), (18, .tuple [.int .u64 0, .int .u64 64]), (24, .tuple [.int .u64 0, .int .u64 64]), (23, .int .u64 64), (22, .int .i64 64), (21, .int .u64 1), (20, .int .i64 1), (19, .slice 1 0 g 0 1 cp), (16, .bool false), (15, .int .i64 64), (13, .bool false), (12, .int .i64 64), (4, .nilSlice), (0, .slice 1 0 g 0 1 cp), (1,
 .int .i64 64)] := by kernel_rfl
theorem A61_tab {x : Int} {g : Nat} {cp : Option Nat} : (A61 x g cp).tab = [some ⟨.ints .u8 [x], g, false, 5⟩] := by kernel_rfl
noncomputable def B61 (x : Int) (g : Nat) (cp : Option Nat) (f : Nat → Int) : Out := runOps eR ops16.toList 77 (ops16.toList.drop 2) ((54, .slice 1 1 0 0 64 none) :: (A61 x g cp).fm) [some ⟨.ints .u8 [x], g, false, 5⟩, some ⟨.ints .u8 (mapL f 64), 0, true, 5⟩] 2 []
theorem B61_ok {x : Int} {g : Nat} {cp : Option Nat} {f : Nat → Int} (h : allP []) : Ok (B61 x g cp f) := Ok.dem (fl := [true, true, true, true, true, true]) (by kernel_rfl) (by kernel_rfl) (by kernel_rfl) h
theorem B61_ex {x : Int} {g : Nat} {cp : Option Nat} {f : Nat → Int} : (B61 x g cp f).ex = .normal := by kernel_rfl
theorem B61_fm {x : Int} {g : Nat} {cp : Option Nat} {f : Nat → Int} : (B61 x g cp f).fm = [(9, .slice 1 1 0 0 64 (some 64)), (57, .slice 1 1 0 0 64 (some 64)), (56, .int .i64 64), (55, .int .i64 64), (54, .slice 1 1 0 0 64 none), (53, .int .i64 64), (42, .bool false), (41, .int .i64 64), (8, .int .i64 64), (40, .int .i64 64), (38, .bool false), (37, .int .i64 1), (36, .slice 1 0 g 0 1 cp), (7,
 .int .i64 64), (35, .int .i64 64), (34, .int .u64 64), (32, .bool false), (31, .bool false), (30, .int .u64 64), (29, .bool false), (28, .bool false), (27, .int .u64 0), (6, .int .u64 64), (5, .int .u64 0), (26, .int .u64 64), (25, .int .u64 0), (18, .tuple [.int .u64 0, .int .u64 64]), (24, .tuple [.int .u64 0, .int .u64 64]), (23, .int .u64 64), (22, .int .i64 64), (21, .int .u64 1), (20, .int
 .i64 1), (19, .slice 1 0 g 0 1 cp), (16, .bool false), (15, .int .i64 64), (13, .bool false), (12, .int .i64 64), (4, .nilSlice), (0, .slice 1 0 g 0 1 cp), (1, .int .i64 64)] := by kernel_rfl
theorem B61_tab {x : Int} {g : Nat} {cp : Option Nat} {f : Nat → Int} : (B61 x g cp f).tab = [some ⟨.ints .u8 [x], g, false, 5⟩, some ⟨.ints .u8 [f 0, f 1, f 2, f 3, f 4, f 5, f 6, f 7, f 8, f 9, f 10, f 11, f 12, f 13, f 14, f 15, f 16, f 17, f 18, f 19, f 20, f 21, f 22, f 23, f 24, f 25, f 26, f 27, f 28, f 29, f 30, f 31, f 32, f 33, f 34, f 35, f 36, f 37, f 38, f 39, f 40, f 41, f 42, f 43, f
 44, f 45, f 46, f 47, f 48, f 49, f 50, f 51, f 52, f 53, f 54, f 55, f 56, f 57, f 58, f 59, f 60, f 61, f 62, f 63], 0, true, 5⟩] := by kernel_rfl
noncomputable def C61 (x : Int) (g : Nat) (cp : Option Nat) (f : Nat → Int) : Out := trim 1 2 [4] (run eR 77 ⟨1, []⟩ 300 rest16 (B61 x g cp f).fm (B61 x g cp f).tab [])
theorem C61_ok {x : Int} {g : Nat} {cp : Option Nat} {f : Nat → Int} (h : allP [.eqN g g]) : Ok (C61 x g cp f) := Ok.dem (fl := bitsF 101 1901350170138613523300830674843) (by kernel_rfl) (by kernel_rfl) (by kernel_rfl) h
theorem C61_ex {x : Int} {g : Nat} {cp : Option Nat} {f : Nat → Int} : (C61 x g cp f).ex = .ret := by kernel_rfl
theorem C61_fm {x : Int} {g : Nat} {cp : Option Nat} {f : Nat → Int} : (C61 x g cp f).fm = [(4, .slice 1 1 0 0 64 (some 64))] := by kernel_rfl
theorem C61_tab {x : Int} {g : Nat} {cp : Option Nat} {f : Nat → Int} : (C61 x g cp f).tab = [some ⟨.ints .u8 [x], g, false, 5⟩, some ⟨.ints .u8 [x, x, x, x, x, x, x, x, x, x, x, x, x, x, x, x, x, x, x, x, x, x, x, x, x, x, x, x, x, x, x, x, x, x, x, x, x, x, x, x, x, x, x, x, x, x, x, x, x, x, x, x, x, x, x, x, x, x, x, x, x, x, x, x], 0, true, 5⟩] := by kernel_rfl
end Go.Abs

set_option linter.unusedVariables false
set_option linter.unusedSimpArgs false
set_option maxRecDepth 8000
namespace Go.Abs
open Go.Proofs Go.Proofs.Tryd
def theCall (o : Oper) : Call := match o.op with | .call c => c | _ => { callee := .value (.tmp 0), args := #[], argTypes := #[] }
def repLaw (x : Int) : List Int := [x, x, x, x, x, x, x, x, x, x, x, x, x, x, x, x, x, x, x, x, x, x, x, x, x, x, x, x, x, x, x, x, x, x, x, x, x, x, x, x, x, x, x, x, x, x, x, x, x, x, x, x, x, x, x, x, x, x, x, x, x, x, x, x]
theorem t22S : prog.underlying 22 = some (.slice 5) := by kernel_rfl
theorem nn67 : (f67.name == "runtime.NumGoroutine") = false := by kernel_rfl
theorem find67 : Extern.find f67 = some (Extern.BytealgMakeNoZero.makeNoZero f67.params #[22]) := by kernel_rfl
theorem fnext67 : Extern.findNext f67 = none := by kernel_rfl
theorem small61 {x : Int} {g : Nat} {cp : Option Nat} : Small prog glS 61 [.slice 1 0 g 0 1 cp, .int .i64 64] [some ⟨.ints .u8 [x], g, false, 5⟩] (.slice 1 1 0 0 64 (some 64)) [some ⟨.ints .u8 [x], g, false, 5⟩, some ⟨.ints .u8 (repLaw x), 0, true, 5⟩] := by
  refine small_of_awp (E := eR) (f := 61) eR_ok (fn := f61) (c := bodyOf f61) (by kernel_rfl) (by kernel_rfl) (by kernel_rfl) ?_
  refine AWp.cut eR_ok hmS 9 (ds := []) (f := 300) (o := P61 x g cp) (by kernel_rfl) (P61_ok (x := x) (g := g) (cp := cp) (by simp [allP, Con.h])) P61_ex ?_
  rw [split16]
  refine AWp.seq ?_
  refine AWp.freshRegion eR_ok (l1 := ops16.toList.take 1) (l2 := ops16.toList.drop 2) (oy := ops16.toList.getD 1 default) (by kernel_rfl) (ds1 := []) (o1 := A61 x g cp) (by kernel_rfl) (A61_ok (x := x) (g := g) (cp := cp) trivial) (gf := 67) (gfn := f67) (x := .tmp 53) (t := 54) (c := theCall (ops16.toList.getD 1 default)) (by kernel_rfl) (by kernel_rfl) (by kernel_rfl) (by kernel_rfl) (by kernel_rfl) (by decide) (st := 22) (et := 5) (by kernel_rfl) nn67 (by kernel_rfl) fnext67 find67 t22S (m := 64) (by decide) (by kernel_rfl) ?_
  intro zs hz
  obtain ⟨f, rfl⟩ := mapL_of hz
  refine ⟨[], B61 x g cp f, by kernel_rfl, (B61_ok (x := x) (g := g) (cp := cp) (f := f) trivial), ?_⟩
  show AWp _ _ _ rest16 _ _ _
  have h := To.of (k := 1) (m := 2) (slots := [4]) (o := C61 x g cp f) eR_ok hmS (orc := ⟨1, []⟩) (Nat.le_refl 1) (c := rest16) OrcOk.nil (f := 300) (fm := (B61 x g cp f).fm) (T := (B61 x g cp f).tab) (ds := []) rfl (C61_ok (by simp [allP, Con.h])) C61_ex C61_fm C61_tab
  refine AWp.mono h fun ex fm' T' hP => ?_
  obtain ⟨e1, e2, e3⟩ := hP
  subst e1 e2 e3
  exact ⟨.inr rfl, rfl, [], [.slice 1 1 0 0 64 (some 64)], by kernel_rfl, trivial, rfl⟩
end Go.Abs

set_option linter.unusedVariables false
set_option linter.unusedSimpArgs false
set_option maxRecDepth 8000
set_option maxHeartbeats 4000000
namespace Go.Abs
open Go.Proofs Go.Proofs.Tryd
/-! ### hmac: keys and texts -/
/-- a pad, changed by a key -/
def xkLaw : List Int → List Int → List Int
  | x :: b, k :: ks => ixor x k :: xkLaw b ks
  | b, _ => b
theorem xk_nil (b : List Int) : xkLaw b [] = b := by cases b <;> rfl
theorem xk_len : ∀ (b ks : List Int), (xkLaw b ks).length = b.length
  | [], [] => rfl
  | [], _ :: _ => rfl
  | x :: b, [] => rfl
  | x :: b, k :: ks => by simp [xkLaw, xk_len b ks]
theorem xk_next : ∀ (i : Nat) (b ks : List Int), i < b.length → i < ks.length → (xkLaw b (ks.take i)).getD i 0 = b.getD i 0 ∧ (xkLaw b (ks.take i)).set i (ixor (b.getD i 0) (ks.getD i 0)) = xkLaw b (ks.take (i + 1))
  | 0, x :: b, k :: ks, _, _ => by simp [xkLaw, xk_nil]
  | i + 1, x :: b, k :: ks, h1, h2 => by
    obtain ⟨g1, g2⟩ := xk_next i b ks (by simpa using h1) (by simpa using h2)
    simp only [List.take_succ_cons, xkLaw, List.getD_cons_succ, List.set_cons_succ]
    exact ⟨g1, by rw [g2]⟩
  | _, [], _, h, _ => by simp at h
  | _, _ :: _, [], _, h => by simp at h
theorem BsLaw.xk {b ks : List Int} (hb : BsLaw b) (hk : BsLaw ks) : BsLaw (xkLaw b ks) := by
  induction b generalizing ks with
  | nil => cases ks <;> exact hb
  | cons x b ih =>
    cases ks with
    | nil => exact hb
    | cons k ks =>
      intro i
      cases i with
      | zero => exact (by have := Wd.ixor (W := 8) (hb 0) (hk 0); exact this)
      | succ i => exact ih (fun i => hb (i + 1)) (fun i => hk (i + 1)) i
theorem rep_bs {x : Int} (h : 0 ≤ x ∧ x < 256) : BsLaw (repLaw x) := by
  unfold repLaw
  repeat (first | exact BsLaw.nil | refine BsLaw.cons h ?_)
noncomputable def sm61c (args : List AVal) (T : Tab) (x : Int) (g : Nat) (cp : Option Nat) : Res := ⟨[.tab T [some ⟨.ints .u8 [x], g, false, 5⟩], .val (.tuple args) (.tuple [.slice 1 0 g 0 1 cp, .int .i64 64])], .slice 1 1 0 0 64 (some 64), [some ⟨.ints .u8 [x], g, false, 5⟩, some ⟨.ints .u8 (repLaw x), 0, true, 5⟩]⟩
theorem sm61c_ok {args : List AVal} {T : Tab} {x : Int} {g : Nat} {cp : Option Nat} (h : allP (sm61c args T x g cp).cs) : Small prog glS 61 args T (sm61c args T x g cp).val (sm61c args T x g cp).tab := by
  obtain ⟨hT, hv, _⟩ := h
  simp only [Con.h] at hT hv
  injection hv with hv
  subst hT hv
  exact small61
noncomputable def sm61 : Summary := fun args T => sm61c args T ((xsAt T 0).getD 0 0) (gAt T 0) (capOf (vAt args 0))
theorem sm61_ok : SmOk prog glS 61 sm61 := fun args T h => sm61c_ok h
noncomputable def S61 : Summary := callR sm61 []
theorem S61_ok : SumOk prog glS 61 S61 := callR_ok sm61_ok []
noncomputable def eP : Env := eS0 [(61, S61), (13, S13)]
theorem eP_ok : EnvOk eP := envOf_ok tysS_ok (SumsOk.cons (fn := f61) S61_ok (by kernel_rfl) (by kernel_rfl) (by kernel_rfl) (SumsOk.cons (fn := f13) S13_ok (by kernel_rfl) (by kernel_rfl) (by kernel_rfl) trivial))
noncomputable def A52s (zs bs : List Int) (g ga off n : Nat) (cp ca : Option Nat) (i : Int) (t2 : List Int) (g2 o2 n2 : Nat) (c2 : Option Nat) : Out := trim 4 4 [2,7,15,16,17] (run eP 42 ⟨4, []⟩ 400 (roundOf 0 f52) [(2, .slice 1 1 ga 0 1 ca), (7, .slice 1 3 0 0 64 (some 64)), (15, .slice 1 0 g off n cp), (16, .int .i64 n), (17, .int .i64 i)] [some ⟨.ints .u8 zs, g, false, 5⟩, some ⟨.agg [.slice 1 2 g2 o2 n2 c2], ga, false, 22⟩, some ⟨.ints .u8 t2, g2, false, 5⟩, some ⟨.ints .u8 bs, 0, true, 5⟩] [some true])
theorem A52s_ok {zs bs : List Int} {g ga off n : Nat} {cp ca : Option Nat} {i : Int} {t2 : List Int} {g2 o2 n2 : Nat} {c2 : Option Nat} (h : allP [.p (decide (i < (↑n : Int)) = true), .eqN g g, .leI 0 i, .leI (i + 1) (↑n : Int), .eqN g g, .leN (addO off i.toNat + 1) zs.length, .leI 0 i, .leI (i + 1) 64, .leN (i.toNat + 1) bs.length, .nn .u8 (bs.getD i.toNat 0), .nn .u8 (zs.getD (addO off i.toNat)
 0), .leI 0 i, .leI (i + 1) 64, .leN (i.toNat + 1) bs.length, .rng (-9223372036854775808) (i + 1) 9223372036854775807]) : Ok (A52s zs bs g ga off n cp ca i t2 g2 o2 n2 c2) := Ok.dem (fl := bitsF 21 729664) (by kernel_rfl) (by kernel_rfl) (by kernel_rfl) h
theorem A52s_ex {zs bs : List Int} {g ga off n : Nat} {cp ca : Option Nat} {i : Int} {t2 : List Int} {g2 o2 n2 : Nat} {c2 : Option Nat} : (A52s zs bs g ga off n cp ca i t2 g2 o2 n2 c2).ex = .normal := by kernel_rfl
theorem A52s_fm {zs bs : List Int} {g ga off n : Nat} {cp ca : Option Nat} {i : Int} {t2 : List Int} {g2 o2 n2 : Nat} {c2 : Option Nat} : (A52s zs bs g ga off n cp ca i t2 g2 o2 n2 c2).fm = [(2, .slice 1 1 ga 0 1 ca), (7, .slice 1 3 0 0 64 (some 64)), (15, .slice 1 0 g off n cp), (16, .int .i64 (↑n : Int)), (17, .int .i64 (i + 1))] := by kernel_rfl
theorem A52s_tab {zs bs : List Int} {g ga off n : Nat} {cp ca : Option Nat} {i : Int} {t2 : List Int} {g2 o2 n2 : Nat} {c2 : Option Nat} : (A52s zs bs g ga off n cp ca i t2 g2 o2 n2 c2).tab = [some ⟨.ints .u8 zs, g, false, 5⟩, some ⟨.agg [.slice 1 2 g2 o2 n2 c2], ga, false, 22⟩, some ⟨.ints .u8 t2, g2, false, 5⟩, some ⟨.ints .u8 (bs.set i.toNat (ixor (bs.getD i.toNat 0) (zs.getD (addO off i.toNat)
 0))), 0, true, 5⟩] := by kernel_rfl
noncomputable def B52s (zs bs : List Int) (g ga off n : Nat) (cp ca : Option Nat) (i : Int) (t2 : List Int) (g2 o2 n2 : Nat) (c2 : Option Nat) : Out := trim 4 4 [2,7] (run eP 42 ⟨4, []⟩ 400 (roundOf 0 f52) [(2, .slice 1 1 ga 0 1 ca), (7, .slice 1 3 0 0 64 (some 64)), (15, .slice 1 0 g off n cp), (16, .int .i64 n), (17, .int .i64 i)] [some ⟨.ints .u8 zs, g, false, 5⟩, some ⟨.agg [.slice 1 2 g2 o2 n2 c2], ga, false, 22⟩, some ⟨.ints .u8 t2, g2, false, 5⟩, some ⟨.ints .u8 bs, 0, true, 5⟩] [some false])
theorem B52s_ok {zs bs : List Int} {g ga off n : Nat} {cp ca : Option Nat} {i : Int} {t2 : List Int} {g2 o2 n2 : Nat} {c2 : Option Nat} (h : allP [.p (decide (i < (↑n : Int)) = false)]) : Ok (B52s zs bs g ga off n cp ca i t2 g2 o2 n2 c2) := Ok.dem (fl := [false]) (by kernel_rfl) (by kernel_rfl) (by kernel_rfl) h
theorem B52s_ex {zs bs : List Int} {g ga off n : Nat} {cp ca : Option Nat} {i : Int} {t2 : List Int} {g2 o2 n2 : Nat} {c2 : Option Nat} : (B52s zs bs g ga off n cp ca i t2 g2 o2 n2 c2).ex = .exit 0 := by kernel_rfl
theorem B52s_fm {zs bs : List Int} {g ga off n : Nat} {cp ca : Option Nat} {i : Int} {t2 : List Int} {g2 o2 n2 : Nat} {c2 : Option Nat} : (B52s zs bs g ga off n cp ca i t2 g2 o2 n2 c2).fm = [(2, .slice 1 1 ga 0 1 ca), (7, .slice 1 3 0 0 64 (some 64))] := by kernel_rfl
theorem B52s_tab {zs bs : List Int} {g ga off n : Nat} {cp ca : Option Nat} {i : Int} {t2 : List Int} {g2 o2 n2 : Nat} {c2 : Option Nat} : (B52s zs bs g ga off n cp ca i t2 g2 o2 n2 c2).tab = [some ⟨.ints .u8 zs, g, false, 5⟩, some ⟨.agg [.slice 1 2 g2 o2 n2 c2], ga, false, 22⟩, some ⟨.ints .u8 t2, g2, false, 5⟩, some ⟨.ints .u8 bs, 0, true, 5⟩] := by kernel_rfl
noncomputable def A52nss (zs bs : List Int) (g ga off n : Nat) (cp ca : Option Nat) (i : Int) (t2 t3 : List Int) (g2 o2 n2 g3 o3 n3 : Nat) (c2 c3 : Option Nat) : Out := trim 5 5 [2,7,15,16,17] (run eP 42 ⟨5, []⟩ 400 (roundOf 0 f52) [(2, .slice 1 1 ga 0 3 ca), (7, .slice 1 4 0 0 64 (some 64)), (15, .slice 1 0 g off n cp), (16, .int .i64 n), (17, .int .i64 i)] [some ⟨.ints .u8 zs, g, false, 5⟩, some ⟨.agg [.nilSlice, .slice 1 2 g2 o2 n2 c2, .slice 1 3 g3 o3 n3 c3], ga, false, 22⟩, some ⟨.ints .u8 t2, g2, false, 5⟩, some ⟨.ints .u8 t3, g3, false, 5⟩, some ⟨.ints .u8 bs, 0, true, 5⟩] [some true])
theorem A52nss_ok {zs bs : List Int} {g ga off n : Nat} {cp ca : Option Nat} {i : Int} {t2 t3 : List Int} {g2 o2 n2 g3 o3 n3 : Nat} {c2 c3 : Option Nat} (h : allP [.p (decide (i < (↑n : Int)) = true), .eqN g g, .leI 0 i, .leI (i + 1) (↑n : Int), .eqN g g, .leN (addO off i.toNat + 1) zs.length, .leI 0 i, .leI (i + 1) 64, .leN (i.toNat + 1) bs.length, .nn .u8 (bs.getD i.toNat 0), .nn .u8 (zs.getD
 (addO off i.toNat) 0), .leI 0 i, .leI (i + 1) 64, .leN (i.toNat + 1) bs.length, .rng (-9223372036854775808) (i + 1) 9223372036854775807]) : Ok (A52nss zs bs g ga off n cp ca i t2 t3 g2 o2 n2 g3 o3 n3 c2 c3) := Ok.dem (fl := bitsF 21 729664) (by kernel_rfl) (by kernel_rfl) (by kernel_rfl) h
theorem A52nss_ex {zs bs : List Int} {g ga off n : Nat} {cp ca : Option Nat} {i : Int} {t2 t3 : List Int} {g2 o2 n2 g3 o3 n3 : Nat} {c2 c3 : Option Nat} : (A52nss zs bs g ga off n cp ca i t2 t3 g2 o2 n2 g3 o3 n3 c2 c3).ex = .normal := by kernel_rfl
theorem A52nss_fm {zs bs : List Int} {g ga off n : Nat} {cp ca : Option Nat} {i : Int} {t2 t3 : List Int} {g2 o2 n2 g3 o3 n3 : Nat} {c2 c3 : Option Nat} : (A52nss zs bs g ga off n cp ca i t2 t3 g2 o2 n2 g3 o3 n3 c2 c3).fm = [(2, .slice 1 1 ga 0 3 ca), (7, .slice 1 4 0 0 64 (some 64)), (15, .slice 1 0 g off n cp), (16, .int .i64 (↑n : Int)), (17, .int .i64 (i + 1))] := by kernel_rfl
theorem A52nss_tab {zs bs : List Int} {g ga off n : Nat} {cp ca : Option Nat} {i : Int} {t2 t3 : List Int} {g2 o2 n2 g3 o3 n3 : Nat} {c2 c3 : Option Nat} : (A52nss zs bs g ga off n cp ca i t2 t3 g2 o2 n2 g3 o3 n3 c2 c3).tab = [some ⟨.ints .u8 zs, g, false, 5⟩, some ⟨.agg [.nilSlice, .slice 1 2 g2 o2 n2 c2, .slice 1 3 g3 o3 n3 c3], ga, false, 22⟩, some ⟨.ints .u8 t2, g2, false, 5⟩, some ⟨.ints .u8
 t3, g3, false, 5⟩, some ⟨.ints .u8 (bs.set i.toNat (ixor (bs.getD i.toNat 0) (zs.getD (addO off i.toNat) 0))), 0, true, 5⟩] := by kernel_rfl
noncomputable def B52nss (zs bs : List Int) (g ga off n : Nat) (cp ca : Option Nat) (i : Int) (t2 t3 : List Int) (g2 o2 n2 g3 o3 n3 : Nat) (c2 c3 : Option Nat) : Out := trim 5 5 [2,7] (run eP 42 ⟨5, []⟩ 400 (roundOf 0 f52) [(2, .slice 1 1 ga 0 3 ca), (7, .slice 1 4 0 0 64 (some 64)), (15, .slice 1 0 g off n cp), (16, .int .i64 n), (17, .int .i64 i)] [some ⟨.ints .u8 zs, g, false, 5⟩, some ⟨.agg [.nilSlice, .slice 1 2 g2 o2 n2 c2, .slice 1 3 g3 o3 n3 c3], ga, false, 22⟩, some ⟨.ints .u8 t2, g2, false, 5⟩, some ⟨.ints .u8 t3, g3, false, 5⟩, some ⟨.ints .u8 bs, 0, true, 5⟩] [some false])
theorem B52nss_ok {zs bs : List Int} {g ga off n : Nat} {cp ca : Option Nat} {i : Int} {t2 t3 : List Int} {g2 o2 n2 g3 o3 n3 : Nat} {c2 c3 : Option Nat} (h : allP [.p (decide (i < (↑n : Int)) = false)]) : Ok (B52nss zs bs g ga off n cp ca i t2 t3 g2 o2 n2 g3 o3 n3 c2 c3) := Ok.dem (fl := [false]) (by kernel_rfl) (by kernel_rfl) (by kernel_rfl) h
theorem B52nss_ex {zs bs : List Int} {g ga off n : Nat} {cp ca : Option Nat} {i : Int} {t2 t3 : List Int} {g2 o2 n2 g3 o3 n3 : Nat} {c2 c3 : Option Nat} : (B52nss zs bs g ga off n cp ca i t2 t3 g2 o2 n2 g3 o3 n3 c2 c3).ex = .exit 0 := by kernel_rfl
theorem B52nss_fm {zs bs : List Int} {g ga off n : Nat} {cp ca : Option Nat} {i : Int} {t2 t3 : List Int} {g2 o2 n2 g3 o3 n3 : Nat} {c2 c3 : Option Nat} : (B52nss zs bs g ga off n cp ca i t2 t3 g2 o2 n2 g3 o3 n3 c2 c3).fm = [(2, .slice 1 1 ga 0 3 ca), (7, .slice 1 4 0 0 64 (some 64))] := by kernel_rfl
theorem B52nss_tab {zs bs : List Int} {g ga off n : Nat} {cp ca : Option Nat} {i : Int} {t2 t3 : List Int} {g2 o2 n2 g3 o3 n3 : Nat} {c2 c3 : Option Nat} : (B52nss zs bs g ga off n cp ca i t2 t3 g2 o2 n2 g3 o3 n3 c2 c3).tab = [some ⟨.ints .u8 zs, g, false, 5⟩, some ⟨.agg [.nilSlice, .slice 1 2 g2 o2 n2 c2, .slice 1 3 g3 o3 n3 c3], ga, false, 22⟩, some ⟨.ints .u8 t2, g2, false, 5⟩, some ⟨.ints .u8
 t3, g3, false, 5⟩, some ⟨.ints .u8 bs, 0, true, 5⟩] := by kernel_rfl
noncomputable def A52sss (zs bs : List Int) (g ga off n : Nat) (cp ca : Option Nat) (i : Int) (t2 t3 t4 : List Int) (g2 o2 n2 g3 o3 n3 g4 o4 n4 : Nat) (c2 c3 c4 : Option Nat) : Out := trim 6 6 [2,7,15,16,17] (run eP 42 ⟨6, []⟩ 400 (roundOf 0 f52) [(2, .slice 1 1 ga 0 3 ca), (7, .slice 1 5 0 0 64 (some 64)), (15, .slice 1 0 g off n cp), (16, .int .i64 n), (17, .int .i64 i)] [some ⟨.ints .u8 zs, g, false, 5⟩, some ⟨.agg [.slice 1 2 g2 o2 n2 c2, .slice 1 3 g3 o3 n3 c3, .slice 1 4 g4 o4 n4 c4], ga, false, 22⟩, some ⟨.ints .u8 t2, g2, false, 5⟩, some ⟨.ints .u8 t3, g3, false, 5⟩, some ⟨.ints .u8 t4, g4, false, 5⟩, some ⟨.ints .u8 bs, 0, true, 5⟩] [some true])
theorem A52sss_ok {zs bs : List Int} {g ga off n : Nat} {cp ca : Option Nat} {i : Int} {t2 t3 t4 : List Int} {g2 o2 n2 g3 o3 n3 g4 o4 n4 : Nat} {c2 c3 c4 : Option Nat} (h : allP [.p (decide (i < (↑n : Int)) = true), .eqN g g, .leI 0 i, .leI (i + 1) (↑n : Int), .eqN g g, .leN (addO off i.toNat + 1) zs.length, .leI 0 i, .leI (i + 1) 64, .leN (i.toNat + 1) bs.length, .nn .u8 (bs.getD i.toNat 0), .nn
 .u8 (zs.getD (addO off i.toNat) 0), .leI 0 i, .leI (i + 1) 64, .leN (i.toNat + 1) bs.length, .rng (-9223372036854775808) (i + 1) 9223372036854775807]) : Ok (A52sss zs bs g ga off n cp ca i t2 t3 t4 g2 o2 n2 g3 o3 n3 g4 o4 n4 c2 c3 c4) := Ok.dem (fl := bitsF 21 729664) (by kernel_rfl) (by kernel_rfl) (by kernel_rfl) h
theorem A52sss_ex {zs bs : List Int} {g ga off n : Nat} {cp ca : Option Nat} {i : Int} {t2 t3 t4 : List Int} {g2 o2 n2 g3 o3 n3 g4 o4 n4 : Nat} {c2 c3 c4 : Option Nat} : (A52sss zs bs g ga off n cp ca i t2 t3 t4 g2 o2 n2 g3 o3 n3 g4 o4 n4 c2 c3 c4).ex = .normal := by kernel_rfl
theorem A52sss_fm {zs bs : List Int} {g ga off n : Nat} {cp ca : Option Nat} {i : Int} {t2 t3 t4 : List Int} {g2 o2 n2 g3 o3 n3 g4 o4 n4 : Nat} {c2 c3 c4 : Option Nat} : (A52sss zs bs g ga off n cp ca i t2 t3 t4 g2 o2 n2 g3 o3 n3 g4 o4 n4 c2 c3 c4).fm = [(2, .slice 1 1 ga 0 3 ca), (7, .slice 1 5 0 0 64 (some 64)), (15, .slice 1 0 g off n cp), (16, .int .i64 (↑n : Int)), (17, .int .i64 (i + 1))] :=
 by kernel_rfl
theorem A52sss_tab {zs bs : List Int} {g ga off n : Nat} {cp ca : Option Nat} {i : Int} {t2 t3 t4 : List Int} {g2 o2 n2 g3 o3 n3 g4 o4 n4 : Nat} {c2 c3 c4 : Option Nat} : (A52sss zs bs g ga off n cp ca i t2 t3 t4 g2 o2 n2 g3 o3 n3 g4 o4 n4 c2 c3 c4).tab = [some ⟨.ints .u8 zs, g, false, 5⟩, some ⟨.agg [.slice 1 2 g2 o2 n2 c2, .slice 1 3 g3 o3 n3 c3, .slice 1 4 g4 o4 n4 c4], ga, false, 22⟩, some
 ⟨.ints .u8 t2, g2, false, 5⟩, some ⟨.ints .u8 t3, g3, false, 5⟩, some ⟨.ints .u8 t4, g4, false, 5⟩, some ⟨.ints .u8 (bs.set i.toNat (ixor (bs.getD i.toNat 0) (zs.getD (addO off i.toNat) 0))), 0, true, 5⟩] := by kernel_rfl
noncomputable def B52sss (zs bs : List Int) (g ga off n : Nat) (cp ca : Option Nat) (i : Int) (t2 t3 t4 : List Int) (g2 o2 n2 g3 o3 n3 g4 o4 n4 : Nat) (c2 c3 c4 : Option Nat) : Out := trim 6 6 [2,7] (run eP 42 ⟨6, []⟩ 400 (roundOf 0 f52) [(2, .slice 1 1 ga 0 3 ca), (7, .slice 1 5 0 0 64 (some 64)), (15, .slice 1 0 g off n cp), (16, .int .i64 n), (17, .int .i64 i)] [some ⟨.ints .u8 zs, g, false, 5⟩, some ⟨.agg [.slice 1 2 g2 o2 n2 c2, .slice 1 3 g3 o3 n3 c3, .slice 1 4 g4 o4 n4 c4], ga, false, 22⟩, some ⟨.ints .u8 t2, g2, false, 5⟩, some ⟨.ints .u8 t3, g3, false, 5⟩, some ⟨.ints .u8 t4, g4, false, 5⟩, some ⟨.ints .u8 bs, 0, true, 5⟩] [some false])
theorem B52sss_ok {zs bs : List Int} {g ga off n : Nat} {cp ca : Option Nat} {i : Int} {t2 t3 t4 : List Int} {g2 o2 n2 g3 o3 n3 g4 o4 n4 : Nat} {c2 c3 c4 : Option Nat} (h : allP [.p (decide (i < (↑n : Int)) = false)]) : Ok (B52sss zs bs g ga off n cp ca i t2 t3 t4 g2 o2 n2 g3 o3 n3 g4 o4 n4 c2 c3 c4) := Ok.dem (fl := [false]) (by kernel_rfl) (by kernel_rfl) (by kernel_rfl) h
theorem B52sss_ex {zs bs : List Int} {g ga off n : Nat} {cp ca : Option Nat} {i : Int} {t2 t3 t4 : List Int} {g2 o2 n2 g3 o3 n3 g4 o4 n4 : Nat} {c2 c3 c4 : Option Nat} : (B52sss zs bs g ga off n cp ca i t2 t3 t4 g2 o2 n2 g3 o3 n3 g4 o4 n4 c2 c3 c4).ex = .exit 0 := by kernel_rfl
theorem B52sss_fm {zs bs : List Int} {g ga off n : Nat} {cp ca : Option Nat} {i : Int} {t2 t3 t4 : List Int} {g2 o2 n2 g3 o3 n3 g4 o4 n4 : Nat} {c2 c3 c4 : Option Nat} : (B52sss zs bs g ga off n cp ca i t2 t3 t4 g2 o2 n2 g3 o3 n3 g4 o4 n4 c2 c3 c4).fm = [(2, .slice 1 1 ga 0 3 ca), (7, .slice 1 5 0 0 64 (some 64))] := by kernel_rfl
theorem B52sss_tab {zs bs : List Int} {g ga off n : Nat} {cp ca : Option Nat} {i : Int} {t2 t3 t4 : List Int} {g2 o2 n2 g3 o3 n3 g4 o4 n4 : Nat} {c2 c3 c4 : Option Nat} : (B52sss zs bs g ga off n cp ca i t2 t3 t4 g2 o2 n2 g3 o3 n3 g4 o4 n4 c2 c3 c4).tab = [some ⟨.ints .u8 zs, g, false, 5⟩, some ⟨.agg [.slice 1 2 g2 o2 n2 c2, .slice 1 3 g3 o3 n3 c3, .slice 1 4 g4 o4 n4 c4], ga, false, 22⟩, some
 ⟨.ints .u8 t2, g2, false, 5⟩, some ⟨.ints .u8 t3, g3, false, 5⟩, some ⟨.ints .u8 t4, g4, false, 5⟩, some ⟨.ints .u8 bs, 0, true, 5⟩] := by kernel_rfl
noncomputable def A52nns (zs bs : List Int) (g ga off n : Nat) (cp ca : Option Nat) (i : Int) (t2 : List Int) (g2 o2 n2 : Nat) (c2 : Option Nat) : Out := trim 4 4 [2,7,15,16,17] (run eP 42 ⟨4, []⟩ 400 (roundOf 0 f52) [(2, .slice 1 1 ga 0 3 ca), (7, .slice 1 3 0 0 64 (some 64)), (15, .slice 1 0 g off n cp), (16, .int .i64 n), (17, .int .i64 i)] [some ⟨.ints .u8 zs, g, false, 5⟩, some ⟨.agg [.nilSlice, .nilSlice, .slice 1 2 g2 o2 n2 c2], ga, false, 22⟩, some ⟨.ints .u8 t2, g2, false, 5⟩, some ⟨.ints .u8 bs, 0, true, 5⟩] [some true])
theorem A52nns_ok {zs bs : List Int} {g ga off n : Nat} {cp ca : Option Nat} {i : Int} {t2 : List Int} {g2 o2 n2 : Nat} {c2 : Option Nat} (h : allP [.p (decide (i < (↑n : Int)) = true), .eqN g g, .leI 0 i, .leI (i + 1) (↑n : Int), .eqN g g, .leN (addO off i.toNat + 1) zs.length, .leI 0 i, .leI (i + 1) 64, .leN (i.toNat + 1) bs.length, .nn .u8 (bs.getD i.toNat 0), .nn .u8 (zs.getD (addO off i.toNat)
 0), .leI 0 i, .leI (i + 1) 64, .leN (i.toNat + 1) bs.length, .rng (-9223372036854775808) (i + 1) 9223372036854775807]) : Ok (A52nns zs bs g ga off n cp ca i t2 g2 o2 n2 c2) := Ok.dem (fl := bitsF 21 729664) (by kernel_rfl) (by kernel_rfl) (by kernel_rfl) h
theorem A52nns_ex {zs bs : List Int} {g ga off n : Nat} {cp ca : Option Nat} {i : Int} {t2 : List Int} {g2 o2 n2 : Nat} {c2 : Option Nat} : (A52nns zs bs g ga off n cp ca i t2 g2 o2 n2 c2).ex = .normal := by kernel_rfl
theorem A52nns_fm {zs bs : List Int} {g ga off n : Nat} {cp ca : Option Nat} {i : Int} {t2 : List Int} {g2 o2 n2 : Nat} {c2 : Option Nat} : (A52nns zs bs g ga off n cp ca i t2 g2 o2 n2 c2).fm = [(2, .slice 1 1 ga 0 3 ca), (7, .slice 1 3 0 0 64 (some 64)), (15, .slice 1 0 g off n cp), (16, .int .i64 (↑n : Int)), (17, .int .i64 (i + 1))] := by kernel_rfl
theorem A52nns_tab {zs bs : List Int} {g ga off n : Nat} {cp ca : Option Nat} {i : Int} {t2 : List Int} {g2 o2 n2 : Nat} {c2 : Option Nat} : (A52nns zs bs g ga off n cp ca i t2 g2 o2 n2 c2).tab = [some ⟨.ints .u8 zs, g, false, 5⟩, some ⟨.agg [.nilSlice, .nilSlice, .slice 1 2 g2 o2 n2 c2], ga, false, 22⟩, some ⟨.ints .u8 t2, g2, false, 5⟩, some ⟨.ints .u8 (bs.set i.toNat (ixor (bs.getD i.toNat 0)
 (zs.getD (addO off i.toNat) 0))), 0, true, 5⟩] := by kernel_rfl
noncomputable def B52nns (zs bs : List Int) (g ga off n : Nat) (cp ca : Option Nat) (i : Int) (t2 : List Int) (g2 o2 n2 : Nat) (c2 : Option Nat) : Out := trim 4 4 [2,7] (run eP 42 ⟨4, []⟩ 400 (roundOf 0 f52) [(2, .slice 1 1 ga 0 3 ca), (7, .slice 1 3 0 0 64 (some 64)), (15, .slice 1 0 g off n cp), (16, .int .i64 n), (17, .int .i64 i)] [some ⟨.ints .u8 zs, g, false, 5⟩, some ⟨.agg [.nilSlice, .nilSlice, .slice 1 2 g2 o2 n2 c2], ga, false, 22⟩, some ⟨.ints .u8 t2, g2, false, 5⟩, some ⟨.ints .u8 bs, 0, true, 5⟩] [some false])
theorem B52nns_ok {zs bs : List Int} {g ga off n : Nat} {cp ca : Option Nat} {i : Int} {t2 : List Int} {g2 o2 n2 : Nat} {c2 : Option Nat} (h : allP [.p (decide (i < (↑n : Int)) = false)]) : Ok (B52nns zs bs g ga off n cp ca i t2 g2 o2 n2 c2) := Ok.dem (fl := [false]) (by kernel_rfl) (by kernel_rfl) (by kernel_rfl) h
theorem B52nns_ex {zs bs : List Int} {g ga off n : Nat} {cp ca : Option Nat} {i : Int} {t2 : List Int} {g2 o2 n2 : Nat} {c2 : Option Nat} : (B52nns zs bs g ga off n cp ca i t2 g2 o2 n2 c2).ex = .exit 0 := by kernel_rfl
theorem B52nns_fm {zs bs : List Int} {g ga off n : Nat} {cp ca : Option Nat} {i : Int} {t2 : List Int} {g2 o2 n2 : Nat} {c2 : Option Nat} : (B52nns zs bs g ga off n cp ca i t2 g2 o2 n2 c2).fm = [(2, .slice 1 1 ga 0 3 ca), (7, .slice 1 3 0 0 64 (some 64))] := by kernel_rfl
theorem B52nns_tab {zs bs : List Int} {g ga off n : Nat} {cp ca : Option Nat} {i : Int} {t2 : List Int} {g2 o2 n2 : Nat} {c2 : Option Nat} : (B52nns zs bs g ga off n cp ca i t2 g2 o2 n2 c2).tab = [some ⟨.ints .u8 zs, g, false, 5⟩, some ⟨.agg [.nilSlice, .nilSlice, .slice 1 2 g2 o2 n2 c2], ga, false, 22⟩, some ⟨.ints .u8 t2, g2, false, 5⟩, some ⟨.ints .u8 bs, 0, true, 5⟩] := by kernel_rfl
noncomputable def A52sns (zs bs : List Int) (g ga off n : Nat) (cp ca : Option Nat) (i : Int) (t2 t3 : List Int) (g2 o2 n2 g3 o3 n3 : Nat) (c2 c3 : Option Nat) : Out := trim 5 5 [2,7,15,16,17] (run eP 42 ⟨5, []⟩ 400 (roundOf 0 f52) [(2, .slice 1 1 ga 0 3 ca), (7, .slice 1 4 0 0 64 (some 64)), (15, .slice 1 0 g off n cp), (16, .int .i64 n), (17, .int .i64 i)] [some ⟨.ints .u8 zs, g, false, 5⟩, some ⟨.agg [.slice 1 2 g2 o2 n2 c2, .nilSlice, .slice 1 3 g3 o3 n3 c3], ga, false, 22⟩, some ⟨.ints .u8 t2, g2, false, 5⟩, some ⟨.ints .u8 t3, g3, false, 5⟩, some ⟨.ints .u8 bs, 0, true, 5⟩] [some true])
theorem A52sns_ok {zs bs : List Int} {g ga off n : Nat} {cp ca : Option Nat} {i : Int} {t2 t3 : List Int} {g2 o2 n2 g3 o3 n3 : Nat} {c2 c3 : Option Nat} (h : allP [.p (decide (i < (↑n : Int)) = true), .eqN g g, .leI 0 i, .leI (i + 1) (↑n : Int), .eqN g g, .leN (addO off i.toNat + 1) zs.length, .leI 0 i, .leI (i + 1) 64, .leN (i.toNat + 1) bs.length, .nn .u8 (bs.getD i.toNat 0), .nn .u8 (zs.getD
 (addO off i.toNat) 0), .leI 0 i, .leI (i + 1) 64, .leN (i.toNat + 1) bs.length, .rng (-9223372036854775808) (i + 1) 9223372036854775807]) : Ok (A52sns zs bs g ga off n cp ca i t2 t3 g2 o2 n2 g3 o3 n3 c2 c3) := Ok.dem (fl := bitsF 21 729664) (by kernel_rfl) (by kernel_rfl) (by kernel_rfl) h
theorem A52sns_ex {zs bs : List Int} {g ga off n : Nat} {cp ca : Option Nat} {i : Int} {t2 t3 : List Int} {g2 o2 n2 g3 o3 n3 : Nat} {c2 c3 : Option Nat} : (A52sns zs bs g ga off n cp ca i t2 t3 g2 o2 n2 g3 o3 n3 c2 c3).ex = .normal := by kernel_rfl
theorem A52sns_fm {zs bs : List Int} {g ga off n : Nat} {cp ca : Option Nat} {i : Int} {t2 t3 : List Int} {g2 o2 n2 g3 o3 n3 : Nat} {c2 c3 : Option Nat} : (A52sns zs bs g ga off n cp ca i t2 t3 g2 o2 n2 g3 o3 n3 c2 c3).fm = [(2, .slice 1 1 ga 0 3 ca), (7, .slice 1 4 0 0 64 (some 64)), (15, .slice 1 0 g off n cp), (16, .int .i64 (↑n : Int)), (17, .int .i64 (i + 1))] := by kernel_rfl
theorem A52sns_tab {zs bs : List Int} {g ga off n : Nat} {cp ca : Option Nat} {i : Int} {t2 t3 : List Int} {g2 o2 n2 g3 o3 n3 : Nat} {c2 c3 : Option Nat} : (A52sns zs bs g ga off n cp ca i t2 t3 g2 o2 n2 g3 o3 n3 c2 c3).tab = [some ⟨.ints .u8 zs, g, false, 5⟩, some ⟨.agg [.slice 1 2 g2 o2 n2 c2, .nilSlice, .slice 1 3 g3 o3 n3 c3], ga, false, 22⟩, some ⟨.ints .u8 t2, g2, false, 5⟩, some ⟨.ints .u8
 t3, g3, false, 5⟩, some ⟨.ints .u8 (bs.set i.toNat (ixor (bs.getD i.toNat 0) (zs.getD (addO off i.toNat) 0))), 0, true, 5⟩] := by kernel_rfl
noncomputable def B52sns (zs bs : List Int) (g ga off n : Nat) (cp ca : Option Nat) (i : Int) (t2 t3 : List Int) (g2 o2 n2 g3 o3 n3 : Nat) (c2 c3 : Option Nat) : Out := trim 5 5 [2,7] (run eP 42 ⟨5, []⟩ 400 (roundOf 0 f52) [(2, .slice 1 1 ga 0 3 ca), (7, .slice 1 4 0 0 64 (some 64)), (15, .slice 1 0 g off n cp), (16, .int .i64 n), (17, .int .i64 i)] [some ⟨.ints .u8 zs, g, false, 5⟩, some ⟨.agg [.slice 1 2 g2 o2 n2 c2, .nilSlice, .slice 1 3 g3 o3 n3 c3], ga, false, 22⟩, some ⟨.ints .u8 t2, g2, false, 5⟩, some ⟨.ints .u8 t3, g3, false, 5⟩, some ⟨.ints .u8 bs, 0, true, 5⟩] [some false])
theorem B52sns_ok {zs bs : List Int} {g ga off n : Nat} {cp ca : Option Nat} {i : Int} {t2 t3 : List Int} {g2 o2 n2 g3 o3 n3 : Nat} {c2 c3 : Option Nat} (h : allP [.p (decide (i < (↑n : Int)) = false)]) : Ok (B52sns zs bs g ga off n cp ca i t2 t3 g2 o2 n2 g3 o3 n3 c2 c3) := Ok.dem (fl := [false]) (by kernel_rfl) (by kernel_rfl) (by kernel_rfl) h
theorem B52sns_ex {zs bs : List Int} {g ga off n : Nat} {cp ca : Option Nat} {i : Int} {t2 t3 : List Int} {g2 o2 n2 g3 o3 n3 : Nat} {c2 c3 : Option Nat} : (B52sns zs bs g ga off n cp ca i t2 t3 g2 o2 n2 g3 o3 n3 c2 c3).ex = .exit 0 := by kernel_rfl
theorem B52sns_fm {zs bs : List Int} {g ga off n : Nat} {cp ca : Option Nat} {i : Int} {t2 t3 : List Int} {g2 o2 n2 g3 o3 n3 : Nat} {c2 c3 : Option Nat} : (B52sns zs bs g ga off n cp ca i t2 t3 g2 o2 n2 g3 o3 n3 c2 c3).fm = [(2, .slice 1 1 ga 0 3 ca), (7, .slice 1 4 0 0 64 (some 64))] := by kernel_rfl
theorem B52sns_tab {zs bs : List Int} {g ga off n : Nat} {cp ca : Option Nat} {i : Int} {t2 t3 : List Int} {g2 o2 n2 g3 o3 n3 : Nat} {c2 c3 : Option Nat} : (B52sns zs bs g ga off n cp ca i t2 t3 g2 o2 n2 g3 o3 n3 c2 c3).tab = [some ⟨.ints .u8 zs, g, false, 5⟩, some ⟨.agg [.slice 1 2 g2 o2 n2 c2, .nilSlice, .slice 1 3 g3 o3 n3 c3], ga, false, 22⟩, some ⟨.ints .u8 t2, g2, false, 5⟩, some ⟨.ints .u8
 t3, g3, false, 5⟩, some ⟨.ints .u8 bs, 0, true, 5⟩] := by kernel_rfl
end Go.Abs

set_option linter.unusedVariables false
set_option linter.unusedSimpArgs false
set_option maxRecDepth 8000
set_option maxHeartbeats 4000000
namespace Go.Abs
open Go.Proofs Go.Proofs.Tryd
/-! ### padded -/
theorem BsLaw.take {l : List Int} (h : BsLaw l) (i : Nat) : BsLaw (l.take i) := h.sub 0 i
theorem subLaw_get {zs : List Int} {off n i : Nat} (h : i < n) : (subLaw zs off n).getD i 0 = zs.getD (off + i) 0 := by
  unfold subLaw
  rw [List.getD_eq_getElem?_getD, List.getElem?_take, if_pos h, List.getElem?_drop, ← List.getD_eq_getElem?_getD]
def aggAt (T : Tab) (i : Nat) : List AVal := match getG T i with | some o => o.data.cells | none => []
/-! texts s -/
theorem loop52s {zs bs : List Int} {g ga off n : Nat} {cp ca : Option Nat} {t2 : List Int} {g2 o2 n2 : Nat} {c2 : Option Nat} (h1 : off + n ≤ zs.length) (h2 : n ≤ 64) (h3 : bs.length = 64) (hz : BsLaw zs) (hb : BsLaw bs) :
    To eP 42 4 (.block 0 (.loop (roundOf 0 f52))) [(2, .slice 1 1 ga 0 1 ca), (7, .slice 1 3 0 0 64 (some 64)), (15, .slice 1 0 g off n cp), (16, .int .i64 n), (17, .int .i64 0)] [some ⟨.ints .u8 zs, g, false, 5⟩, some ⟨.agg [.slice 1 2 g2 o2 n2 c2], ga, false, 22⟩, some ⟨.ints .u8 t2, g2, false, 5⟩, some ⟨.ints .u8 bs, 0, true, 5⟩] .normal [(2, .slice 1 1 ga 0 1 ca), (7, .slice 1 3 0 0 64 (some 64))] [some ⟨.ints .u8 zs, g, false, 5⟩, some ⟨.agg [.slice 1 2 g2 o2 n2 c2], ga, false, 22⟩, some ⟨.ints .u8 t2, g2, false, 5⟩, some ⟨.ints .u8 (xkLaw bs (subLaw zs off n)), 0, true, 5⟩] := by
  have hl := subLaw_len h1
  refine To.start (T0 := [some ⟨.ints .u8 zs, g, false, 5⟩, some ⟨.agg [.slice 1 2 g2 o2 n2 c2], ga, false, 22⟩, some ⟨.ints .u8 t2, g2, false, 5⟩, some ⟨.ints .u8 (xkLaw bs ((subLaw zs off n).take 0)), 0, true, 5⟩]) (by rw [List.take_zero, xk_nil]) ?_
  refine To.rounds (fun i => [(2, .slice 1 1 ga 0 1 ca), (7, .slice 1 3 0 0 64 (some 64)), (15, .slice 1 0 g off n cp), (16, .int .i64 n), (17, .int .i64 (i : Nat))]) (fun i => [some ⟨.ints .u8 zs, g, false, 5⟩, some ⟨.agg [.slice 1 2 g2 o2 n2 c2], ga, false, 22⟩, some ⟨.ints .u8 t2, g2, false, 5⟩, some ⟨.ints .u8 (xkLaw bs ((subLaw zs off n).take i)), 0, true, 5⟩]) n (fun i hi => ?_)
    (To.of (o := B52s zs (xkLaw bs (subLaw zs off n)) g ga off n cp ca n t2 g2 o2 n2 c2) eP_ok hmS (Nat.le_refl 4) OrcOk.nil (by rw [List.take_of_length_le (by omega)]; rfl) (B52s_ok (by simp [allP, Con.h])) B52s_ex B52s_fm B52s_tab)
  obtain ⟨k1, k2⟩ := xk_next i bs (subLaw zs off n) (by omega) (by omega)
  have hx : BsLaw (xkLaw bs ((subLaw zs off n).take i)) := hb.xk (BsLaw.take (hz.sub off n) i)
  have e1 : (subLaw zs off n).getD i 0 = zs.getD (off + i) 0 := subLaw_get hi
  have hxl : (xkLaw bs ((subLaw zs off n).take i)).length = 64 := by rw [xk_len, h3]
  refine To.of (o := A52s zs (xkLaw bs ((subLaw zs off n).take i)) g ga off n cp ca i t2 g2 o2 n2 c2) eP_ok hmS (Nat.le_refl 4) OrcOk.nil rfl (A52s_ok ?_) A52s_ex A52s_fm ?_
  · have hx1 := hx i
    have hx2 := hz (off + i)
    simp only [allP, Con.h, nonneg, addO_eq, Int.toNat_natCast, hxl, hx1, hx2, decide_eq_true_eq, eq_self, true_and, and_true]
    omega
  · rw [A52s_tab, addO_eq, Int.toNat_natCast, k1, ← e1, k2]
noncomputable def gA52sc (vs : List AVal) (T : Tab) (zs : List Int) (bs : List Int) (g : Nat) (ga : Nat) (off : Nat) (n : Nat) (cp : Option Nat) (ca : Option Nat) (t2 : List Int) (g2 : Nat) (o2 : Nat) (n2 : Nat) (c2 : Option Nat) : Out := ⟨[.tab T [some ⟨.ints .u8 zs, g, false, 5⟩, some ⟨.agg [.slice 1 2 g2 o2 n2 c2], ga, false, 22⟩, some ⟨.ints .u8 t2, g2, false, 5⟩, some ⟨.ints .u8 bs, 0, true, 5⟩], .val (.tuple vs) (.tuple [.slice 1 1 ga 0 1 ca, .slice 1 3 0 0 64 (some 64), .slice 1 0 g off n cp, .int .i64 n, .int .i64 0]), .leN (off + n) zs.length, .leN n 64, .eqN bs.length 64, .p (BsLaw zs), .p (BsLaw bs)], .normal, [(2, .slice 1 1 ga 0 1 ca), (7, .slice 1 3 0 0 64 (some 64))], [some ⟨.ints .u8 zs, g, false, 5⟩, some ⟨.agg [.slice 1 2 g2 o2 n2 c2], ga, false, 22⟩, some ⟨.ints .u8 t2, g2, false, 5⟩, some ⟨.ints .u8 (xkLaw bs (subLaw zs off n)), 0, true, 5⟩], []⟩
theorem gA52sc_ok {vs : List AVal} {T : Tab} {zs : List Int} {bs : List Int} {g : Nat} {ga : Nat} {off : Nat} {n : Nat} {cp : Option Nat} {ca : Option Nat} {t2 : List Int} {g2 : Nat} {o2 : Nat} {n2 : Nat} {c2 : Option Nat} (h : Ok (gA52sc vs T zs bs g ga off n cp ca t2 g2 o2 n2 c2)) : To eP 42 3 (.block 0 (.loop (roundOf 0 f52))) (zipF [2,7,15,16,17] vs) T (gA52sc vs T zs bs g ga off n cp ca t2 g2 o2 n2 c2).ex (gA52sc vs T zs bs g ga off n cp ca t2 g2 o2 n2 c2).fm (gA52sc vs T zs bs g ga off n cp ca t2 g2 o2 n2 c2).tab := by
  obtain ⟨hT, hv, h1, h2, h3, h4, h5, _⟩ := h.h
  simp only [Con.h] at hT hv h1 h2 h3 h4 h5
  injection hv with hv
  subst hT hv
  exact To.base (by decide) (loop52s h1 h2 h3 h4 h5)
noncomputable def gA52s : List AVal → Tab → Out := fun vs T => gA52sc vs T (xsAt T 0) (xsAt T 3) (gAt T 0) (gAt T 1) (offOf (vAt vs 2)) (lenOf (vAt vs 2)) (capOf (vAt vs 2)) (capOf (vAt vs 0)) (xsAt T 2) (gAt T 2) (offOf (vAt (aggAt T 1) 0)) (lenOf (vAt (aggAt T 1) 0)) (capOf (vAt (aggAt T 1) 0))
theorem gA52s_ok : BlkOk eP f52 0 (.loop (roundOf 0 f52)) (blkGC 3 [0,1,2,4] [2,7,15,16,17] gA52s) := blkGC_ok fun vs T h => gA52sc_ok h
noncomputable def orc52s : OrcL := [(0, blkGC 3 [0,1,2,4] [2,7,15,16,17] gA52s)]
theorem orc52s_ok : FnOrc eP f52 orc52s := FnOrc.cons gA52s_ok (by kernel_rfl) FnOrc.nil
noncomputable def R52s (zs : List Int) (x : Int) (g ga off n : Nat) (cp ca : Option Nat) (t2 : List Int) (g2 o2 n2 : Nat) (c2 : Option Nat) : Res := resG 3 [0,1,2,4] (runF eP f52 orc52s 400 [.slice 1 0 g off n cp, .int .u8 x, .slice 1 1 ga 0 1 ca] [some ⟨.ints .u8 zs, g, false, 5⟩, some ⟨.agg [.slice 1 2 g2 o2 n2 c2], ga, false, 22⟩, some ⟨.ints .u8 t2, g2, false, 5⟩] [])
theorem R52s_ok {zs : List Int} {x : Int} {g ga off n : Nat} {cp ca : Option Nat} {t2 : List Int} {g2 o2 n2 : Nat} {c2 : Option Nat} (h : allP [.eqN g g, .leN (off + n) zs.length, .leN n 64, .p (BsLaw zs), .p (BsLaw (repLaw x)), .eqN ga ga, .eqN ga ga, .eqN ga ga, .leN 64 (xkLaw (repLaw x) (subLaw zs off n)).length, .leN (64 + n2) 140737488355328, .eqN g2 g2, .leN (o2 + n2) t2.length, .leN (0 + (64
 + n2)) (List.take 64 (xkLaw (repLaw x) (subLaw zs off n)) ++ List.take n2 (dropO o2 t2)).length, .leN (64 + n2) 140737488355000, .p (BsLaw (List.take 64 (xkLaw (repLaw x) (subLaw zs off n)) ++ List.take n2 (dropO o2 t2))), .p (capLaw (64 + n2) none)]) : OkR (R52s zs x g ga off n cp ca t2 g2 o2 n2 c2) := OkR.dem (fl := bitsF 34 236652559) (by kernel_rfl) (by kernel_rfl) (by kernel_rfl) h
theorem R52s_val {zs : List Int} {x : Int} {g ga off n : Nat} {cp ca : Option Nat} {t2 : List Int} {g2 o2 n2 : Nat} {c2 : Option Nat} : (R52s zs x g ga off n cp ca t2 g2 o2 n2 c2).val = .slice 1 3 31 0 32 none := by kernel_rfl
theorem R52s_tab {zs : List Int} {x : Int} {g ga off n : Nat} {cp ca : Option Nat} {t2 : List Int} {g2 o2 n2 : Nat} {c2 : Option Nat} : (R52s zs x g ga off n cp ca t2 g2 o2 n2 c2).tab = [some ⟨.ints .u8 zs, g, false, 5⟩, some ⟨.agg [.slice 1 2 g2 o2 n2 c2], ga, false, 22⟩, some ⟨.ints .u8 t2, g2, false, 5⟩, some ⟨.ints .u8 (sum32Law (subLaw (List.take 64 (xkLaw (repLaw x) (subLaw zs off n)) ++
 List.take n2 (dropO o2 t2)) 0 (64 + n2))), 31, true, 5⟩] := by kernel_rfl
/-! texts nss -/
theorem loop52nss {zs bs : List Int} {g ga off n : Nat} {cp ca : Option Nat} {t2 t3 : List Int} {g2 o2 n2 g3 o3 n3 : Nat} {c2 c3 : Option Nat} (h1 : off + n ≤ zs.length) (h2 : n ≤ 64) (h3 : bs.length = 64) (hz : BsLaw zs) (hb : BsLaw bs) :
    To eP 42 5 (.block 0 (.loop (roundOf 0 f52))) [(2, .slice 1 1 ga 0 3 ca), (7, .slice 1 4 0 0 64 (some 64)), (15, .slice 1 0 g off n cp), (16, .int .i64 n), (17, .int .i64 0)] [some ⟨.ints .u8 zs, g, false, 5⟩, some ⟨.agg [.nilSlice, .slice 1 2 g2 o2 n2 c2, .slice 1 3 g3 o3 n3 c3], ga, false, 22⟩, some ⟨.ints .u8 t2, g2, false, 5⟩, some ⟨.ints .u8 t3, g3, false, 5⟩, some ⟨.ints .u8 bs, 0, true, 5⟩] .normal [(2, .slice 1 1 ga 0 3 ca), (7, .slice 1 4 0 0 64 (some 64))] [some ⟨.ints .u8 zs, g, false, 5⟩, some ⟨.agg [.nilSlice, .slice 1 2 g2 o2 n2 c2, .slice 1 3 g3 o3 n3 c3], ga, false, 22⟩, some ⟨.ints .u8 t2, g2, false, 5⟩, some ⟨.ints .u8 t3, g3, false, 5⟩, some ⟨.ints .u8 (xkLaw bs (subLaw zs off n)), 0, true, 5⟩] := by
  have hl := subLaw_len h1
  refine To.start (T0 := [some ⟨.ints .u8 zs, g, false, 5⟩, some ⟨.agg [.nilSlice, .slice 1 2 g2 o2 n2 c2, .slice 1 3 g3 o3 n3 c3], ga, false, 22⟩, some ⟨.ints .u8 t2, g2, false, 5⟩, some ⟨.ints .u8 t3, g3, false, 5⟩, some ⟨.ints .u8 (xkLaw bs ((subLaw zs off n).take 0)), 0, true, 5⟩]) (by rw [List.take_zero, xk_nil]) ?_
  refine To.rounds (fun i => [(2, .slice 1 1 ga 0 3 ca), (7, .slice 1 4 0 0 64 (some 64)), (15, .slice 1 0 g off n cp), (16, .int .i64 n), (17, .int .i64 (i : Nat))]) (fun i => [some ⟨.ints .u8 zs, g, false, 5⟩, some ⟨.agg [.nilSlice, .slice 1 2 g2 o2 n2 c2, .slice 1 3 g3 o3 n3 c3], ga, false, 22⟩, some ⟨.ints .u8 t2, g2, false, 5⟩, some ⟨.ints .u8 t3, g3, false, 5⟩, some ⟨.ints .u8 (xkLaw bs ((subLaw zs off n).take i)), 0, true, 5⟩]) n (fun i hi => ?_)
    (To.of (o := B52nss zs (xkLaw bs (subLaw zs off n)) g ga off n cp ca n t2 t3 g2 o2 n2 g3 o3 n3 c2 c3) eP_ok hmS (Nat.le_refl 5) OrcOk.nil (by rw [List.take_of_length_le (by omega)]; rfl) (B52nss_ok (by simp [allP, Con.h])) B52nss_ex B52nss_fm B52nss_tab)
  obtain ⟨k1, k2⟩ := xk_next i bs (subLaw zs off n) (by omega) (by omega)
  have hx : BsLaw (xkLaw bs ((subLaw zs off n).take i)) := hb.xk (BsLaw.take (hz.sub off n) i)
  have e1 : (subLaw zs off n).getD i 0 = zs.getD (off + i) 0 := subLaw_get hi
  have hxl : (xkLaw bs ((subLaw zs off n).take i)).length = 64 := by rw [xk_len, h3]
  refine To.of (o := A52nss zs (xkLaw bs ((subLaw zs off n).take i)) g ga off n cp ca i t2 t3 g2 o2 n2 g3 o3 n3 c2 c3) eP_ok hmS (Nat.le_refl 5) OrcOk.nil rfl (A52nss_ok ?_) A52nss_ex A52nss_fm ?_
  · have hx1 := hx i
    have hx2 := hz (off + i)
    simp only [allP, Con.h, nonneg, addO_eq, Int.toNat_natCast, hxl, hx1, hx2, decide_eq_true_eq, eq_self, true_and, and_true]
    omega
  · rw [A52nss_tab, addO_eq, Int.toNat_natCast, k1, ← e1, k2]
noncomputable def gA52nssc (vs : List AVal) (T : Tab) (zs : List Int) (bs : List Int) (g : Nat) (ga : Nat) (off : Nat) (n : Nat) (cp : Option Nat) (ca : Option Nat) (t2 : List Int) (g2 : Nat) (o2 : Nat) (n2 : Nat) (c2 : Option Nat) (t3 : List Int) (g3 : Nat) (o3 : Nat) (n3 : Nat) (c3 : Option Nat) : Out := ⟨[.tab T [some ⟨.ints .u8 zs, g, false, 5⟩, some ⟨.agg [.nilSlice, .slice 1 2 g2 o2 n2 c2, .slice 1 3 g3 o3 n3 c3], ga, false, 22⟩, some ⟨.ints .u8 t2, g2, false, 5⟩, some ⟨.ints .u8 t3, g3, false, 5⟩, some ⟨.ints .u8 bs, 0, true, 5⟩], .val (.tuple vs) (.tuple [.slice 1 1 ga 0 3 ca, .slice 1 4 0 0 64 (some 64), .slice 1 0 g off n cp, .int .i64 n, .int .i64 0]), .leN (off + n) zs.length, .leN n 64, .eqN bs.length 64, .p (BsLaw zs), .p (BsLaw bs)], .normal, [(2, .slice 1 1 ga 0 3 ca), (7, .slice 1 4 0 0 64 (some 64))], [some ⟨.ints .u8 zs, g, false, 5⟩, some ⟨.agg [.nilSlice, .slice 1 2 g2 o2 n2 c2, .slice 1 3 g3 o3 n3 c3], ga, false, 22⟩, some ⟨.ints .u8 t2, g2, false, 5⟩, some ⟨.ints .u8 t3, g3, false, 5⟩, some ⟨.ints .u8 (xkLaw bs (subLaw zs off n)), 0, true, 5⟩], []⟩
theorem gA52nssc_ok {vs : List AVal} {T : Tab} {zs : List Int} {bs : List Int} {g : Nat} {ga : Nat} {off : Nat} {n : Nat} {cp : Option Nat} {ca : Option Nat} {t2 : List Int} {g2 : Nat} {o2 : Nat} {n2 : Nat} {c2 : Option Nat} {t3 : List Int} {g3 : Nat} {o3 : Nat} {n3 : Nat} {c3 : Option Nat} (h : Ok (gA52nssc vs T zs bs g ga off n cp ca t2 g2 o2 n2 c2 t3 g3 o3 n3 c3)) : To eP 42 4 (.block 0 (.loop (roundOf 0 f52))) (zipF [2,7,15,16,17] vs) T (gA52nssc vs T zs bs g ga off n cp ca t2 g2 o2 n2 c2 t3 g3 o3 n3 c3).ex (gA52nssc vs T zs bs g ga off n cp ca t2 g2 o2 n2 c2 t3 g3 o3 n3 c3).fm (gA52nssc vs T zs bs g ga off n cp ca t2 g2 o2 n2 c2 t3 g3 o3 n3 c3).tab := by
  obtain ⟨hT, hv, h1, h2, h3, h4, h5, _⟩ := h.h
  simp only [Con.h] at hT hv h1 h2 h3 h4 h5
  injection hv with hv
  subst hT hv
  exact To.base (by decide) (loop52nss h1 h2 h3 h4 h5)
noncomputable def gA52nss : List AVal → Tab → Out := fun vs T => gA52nssc vs T (xsAt T 0) (xsAt T 4) (gAt T 0) (gAt T 1) (offOf (vAt vs 2)) (lenOf (vAt vs 2)) (capOf (vAt vs 2)) (capOf (vAt vs 0)) (xsAt T 2) (gAt T 2) (offOf (vAt (aggAt T 1) 1)) (lenOf (vAt (aggAt T 1) 1)) (capOf (vAt (aggAt T 1) 1)) (xsAt T 3) (gAt T 3) (offOf (vAt (aggAt T 1) 2)) (lenOf (vAt (aggAt T 1) 2)) (capOf (vAt (aggAt T 1) 2))
theorem gA52nss_ok : BlkOk eP f52 0 (.loop (roundOf 0 f52)) (blkGC 4 [0,1,2,3,5] [2,7,15,16,17] gA52nss) := blkGC_ok fun vs T h => gA52nssc_ok h
noncomputable def orc52nss : OrcL := [(0, blkGC 4 [0,1,2,3,5] [2,7,15,16,17] gA52nss)]
theorem orc52nss_ok : FnOrc eP f52 orc52nss := FnOrc.cons gA52nss_ok (by kernel_rfl) FnOrc.nil
noncomputable def R52nss (zs : List Int) (x : Int) (g ga off n : Nat) (cp ca : Option Nat) (t2 t3 : List Int) (g2 o2 n2 g3 o3 n3 : Nat) (c2 c3 : Option Nat) : Res := resG 4 [0,1,2,3,5] (runF eP f52 orc52nss 400 [.slice 1 0 g off n cp, .int .u8 x, .slice 1 1 ga 0 3 ca] [some ⟨.ints .u8 zs, g, false, 5⟩, some ⟨.agg [.nilSlice, .slice 1 2 g2 o2 n2 c2, .slice 1 3 g3 o3 n3 c3], ga, false, 22⟩, some ⟨.ints .u8 t2, g2, false, 5⟩, some ⟨.ints .u8 t3, g3, false, 5⟩] [])
theorem R52nss_ok {zs : List Int} {x : Int} {g ga off n : Nat} {cp ca : Option Nat} {t2 t3 : List Int} {g2 o2 n2 g3 o3 n3 : Nat} {c2 c3 : Option Nat} (h : allP [.eqN g g, .leN (off + n) zs.length, .leN n 64, .p (BsLaw zs), .p (BsLaw (repLaw x)), .eqN ga ga, .eqN ga ga, .eqN ga ga, .leN 64 (xkLaw (repLaw x) (subLaw zs off n)).length, .eqN ga ga, .eqN ga ga, .leN 64 (List.take 64 (xkLaw (repLaw x)
 (subLaw zs off n)) ++ []).length, .leN (64 + n2) 140737488355328, .eqN g2 g2, .leN (o2 + n2) t2.length, .eqN ga ga, .eqN ga ga, .leN (0 + (64 + n2)) (List.take 64 (List.take 64 (xkLaw (repLaw x) (subLaw zs off n)) ++ []) ++ List.take n2 (dropO o2 t2)).length, .leN (addO (64 + n2) n3) 140737488355328, .eqN g3 g3, .leN (o3 + n3) t3.length, .leN (0 + addO (64 + n2) n3) (List.take (64 + n2) (List.take
 64 (List.take 64 (xkLaw (repLaw x) (subLaw zs off n)) ++ []) ++ List.take n2 (dropO o2 t2)) ++ List.take n3 (dropO o3 t3)).length, .leN (addO (64 + n2) n3) 140737488355000, .p (BsLaw (List.take (64 + n2) (List.take 64 (List.take 64 (xkLaw (repLaw x) (subLaw zs off n)) ++ []) ++ List.take n2 (dropO o2 t2)) ++ List.take n3 (dropO o3 t3))), .p (capLaw (addO (64 + n2) n3) none)]) : OkR (R52nss zs x g
 ga off n cp ca t2 t3 g2 o2 n2 g3 o3 n3 c2 c3) := OkR.dem (fl := bitsF 55 496344520919055) (by kernel_rfl) (by kernel_rfl) (by kernel_rfl) h
theorem R52nss_val {zs : List Int} {x : Int} {g ga off n : Nat} {cp ca : Option Nat} {t2 t3 : List Int} {g2 o2 n2 g3 o3 n3 : Nat} {c2 c3 : Option Nat} : (R52nss zs x g ga off n cp ca t2 t3 g2 o2 n2 g3 o3 n3 c2 c3).val = .slice 1 4 31 0 32 none := by kernel_rfl
theorem R52nss_tab {zs : List Int} {x : Int} {g ga off n : Nat} {cp ca : Option Nat} {t2 t3 : List Int} {g2 o2 n2 g3 o3 n3 : Nat} {c2 c3 : Option Nat} : (R52nss zs x g ga off n cp ca t2 t3 g2 o2 n2 g3 o3 n3 c2 c3).tab = [some ⟨.ints .u8 zs, g, false, 5⟩, some ⟨.agg [.nilSlice, .slice 1 2 g2 o2 n2 c2, .slice 1 3 g3 o3 n3 c3], ga, false, 22⟩, some ⟨.ints .u8 t2, g2, false, 5⟩, some ⟨.ints .u8 t3, g3,
 false, 5⟩, some ⟨.ints .u8 (sum32Law (subLaw (List.take (64 + n2) (List.take 64 (List.take 64 (xkLaw (repLaw x) (subLaw zs off n)) ++ []) ++ List.take n2 (dropO o2 t2)) ++ List.take n3 (dropO o3 t3)) 0 (addO (64 + n2) n3))), 31, true, 5⟩] := by kernel_rfl
/-! texts sss -/
theorem loop52sss {zs bs : List Int} {g ga off n : Nat} {cp ca : Option Nat} {t2 t3 t4 : List Int} {g2 o2 n2 g3 o3 n3 g4 o4 n4 : Nat} {c2 c3 c4 : Option Nat} (h1 : off + n ≤ zs.length) (h2 : n ≤ 64) (h3 : bs.length = 64) (hz : BsLaw zs) (hb : BsLaw bs) :
    To eP 42 6 (.block 0 (.loop (roundOf 0 f52))) [(2, .slice 1 1 ga 0 3 ca), (7, .slice 1 5 0 0 64 (some 64)), (15, .slice 1 0 g off n cp), (16, .int .i64 n), (17, .int .i64 0)] [some ⟨.ints .u8 zs, g, false, 5⟩, some ⟨.agg [.slice 1 2 g2 o2 n2 c2, .slice 1 3 g3 o3 n3 c3, .slice 1 4 g4 o4 n4 c4], ga, false, 22⟩, some ⟨.ints .u8 t2, g2, false, 5⟩, some ⟨.ints .u8 t3, g3, false, 5⟩, some ⟨.ints .u8 t4, g4, false, 5⟩, some ⟨.ints .u8 bs, 0, true, 5⟩] .normal [(2, .slice 1 1 ga 0 3 ca), (7, .slice 1 5 0 0 64 (some 64))] [some ⟨.ints .u8 zs, g, false, 5⟩, some ⟨.agg [.slice 1 2 g2 o2 n2 c2, .slice 1 3 g3 o3 n3 c3, .slice 1 4 g4 o4 n4 c4], ga, false, 22⟩, some ⟨.ints .u8 t2, g2, false, 5⟩, some ⟨.ints .u8 t3, g3, false, 5⟩, some ⟨.ints .u8 t4, g4, false, 5⟩, some ⟨.ints .u8 (xkLaw bs (subLaw zs off n)), 0, true, 5⟩] := by
  have hl := subLaw_len h1
  refine To.start (T0 := [some ⟨.ints .u8 zs, g, false, 5⟩, some ⟨.agg [.slice 1 2 g2 o2 n2 c2, .slice 1 3 g3 o3 n3 c3, .slice 1 4 g4 o4 n4 c4], ga, false, 22⟩, some ⟨.ints .u8 t2, g2, false, 5⟩, some ⟨.ints .u8 t3, g3, false, 5⟩, some ⟨.ints .u8 t4, g4, false, 5⟩, some ⟨.ints .u8 (xkLaw bs ((subLaw zs off n).take 0)), 0, true, 5⟩]) (by rw [List.take_zero, xk_nil]) ?_
  refine To.rounds (fun i => [(2, .slice 1 1 ga 0 3 ca), (7, .slice 1 5 0 0 64 (some 64)), (15, .slice 1 0 g off n cp), (16, .int .i64 n), (17, .int .i64 (i : Nat))]) (fun i => [some ⟨.ints .u8 zs, g, false, 5⟩, some ⟨.agg [.slice 1 2 g2 o2 n2 c2, .slice 1 3 g3 o3 n3 c3, .slice 1 4 g4 o4 n4 c4], ga, false, 22⟩, some ⟨.ints .u8 t2, g2, false, 5⟩, some ⟨.ints .u8 t3, g3, false, 5⟩, some ⟨.ints .u8 t4, g4, false, 5⟩, some ⟨.ints .u8 (xkLaw bs ((subLaw zs off n).take i)), 0, true, 5⟩]) n (fun i hi => ?_)
    (To.of (o := B52sss zs (xkLaw bs (subLaw zs off n)) g ga off n cp ca n t2 t3 t4 g2 o2 n2 g3 o3 n3 g4 o4 n4 c2 c3 c4) eP_ok hmS (Nat.le_refl 6) OrcOk.nil (by rw [List.take_of_length_le (by omega)]; rfl) (B52sss_ok (by simp [allP, Con.h])) B52sss_ex B52sss_fm B52sss_tab)
  obtain ⟨k1, k2⟩ := xk_next i bs (subLaw zs off n) (by omega) (by omega)
  have hx : BsLaw (xkLaw bs ((subLaw zs off n).take i)) := hb.xk (BsLaw.take (hz.sub off n) i)
  have e1 : (subLaw zs off n).getD i 0 = zs.getD (off + i) 0 := subLaw_get hi
  have hxl : (xkLaw bs ((subLaw zs off n).take i)).length = 64 := by rw [xk_len, h3]
  refine To.of (o := A52sss zs (xkLaw bs ((subLaw zs off n).take i)) g ga off n cp ca i t2 t3 t4 g2 o2 n2 g3 o3 n3 g4 o4 n4 c2 c3 c4) eP_ok hmS (Nat.le_refl 6) OrcOk.nil rfl (A52sss_ok ?_) A52sss_ex A52sss_fm ?_
  · have hx1 := hx i
    have hx2 := hz (off + i)
    simp only [allP, Con.h, nonneg, addO_eq, Int.toNat_natCast, hxl, hx1, hx2, decide_eq_true_eq, eq_self, true_and, and_true]
    omega
  · rw [A52sss_tab, addO_eq, Int.toNat_natCast, k1, ← e1, k2]
noncomputable def gA52sssc (vs : List AVal) (T : Tab) (zs : List Int) (bs : List Int) (g : Nat) (ga : Nat) (off : Nat) (n : Nat) (cp : Option Nat) (ca : Option Nat) (t2 : List Int) (g2 : Nat) (o2 : Nat) (n2 : Nat) (c2 : Option Nat) (t3 : List Int) (g3 : Nat) (o3 : Nat) (n3 : Nat) (c3 : Option Nat) (t4 : List Int) (g4 : Nat) (o4 : Nat) (n4 : Nat) (c4 : Option Nat) : Out := ⟨[.tab T [some ⟨.ints .u8 zs, g, false, 5⟩, some ⟨.agg [.slice 1 2 g2 o2 n2 c2, .slice 1 3 g3 o3 n3 c3, .slice 1 4 g4 o4 n4 c4], ga, false, 22⟩, some ⟨.ints .u8 t2, g2, false, 5⟩, some ⟨.ints .u8 t3, g3, false, 5⟩, some ⟨.ints .u8 t4, g4, false, 5⟩, some ⟨.ints .u8 bs, 0, true, 5⟩], .val (.tuple vs) (.tuple [.slice 1 1 ga 0 3 ca, .slice 1 5 0 0 64 (some 64), .slice 1 0 g off n cp, .int .i64 n, .int .i64 0]), .leN (off + n) zs.length, .leN n 64, .eqN bs.length 64, .p (BsLaw zs), .p (BsLaw bs)], .normal, [(2, .slice 1 1 ga 0 3 ca), (7, .slice 1 5 0 0 64 (some 64))], [some ⟨.ints .u8 zs, g, false, 5⟩, some ⟨.agg [.slice 1 2 g2 o2 n2 c2, .slice 1 3 g3 o3 n3 c3, .slice 1 4 g4 o4 n4 c4], ga, false, 22⟩, some ⟨.ints .u8 t2, g2, false, 5⟩, some ⟨.ints .u8 t3, g3, false, 5⟩, some ⟨.ints .u8 t4, g4, false, 5⟩, some ⟨.ints .u8 (xkLaw bs (subLaw zs off n)), 0, true, 5⟩], []⟩
theorem gA52sssc_ok {vs : List AVal} {T : Tab} {zs : List Int} {bs : List Int} {g : Nat} {ga : Nat} {off : Nat} {n : Nat} {cp : Option Nat} {ca : Option Nat} {t2 : List Int} {g2 : Nat} {o2 : Nat} {n2 : Nat} {c2 : Option Nat} {t3 : List Int} {g3 : Nat} {o3 : Nat} {n3 : Nat} {c3 : Option Nat} {t4 : List Int} {g4 : Nat} {o4 : Nat} {n4 : Nat} {c4 : Option Nat} (h : Ok (gA52sssc vs T zs bs g ga off n cp ca t2 g2 o2 n2 c2 t3 g3 o3 n3 c3 t4 g4 o4 n4 c4)) : To eP 42 5 (.block 0 (.loop (roundOf 0 f52))) (zipF [2,7,15,16,17] vs) T (gA52sssc vs T zs bs g ga off n cp ca t2 g2 o2 n2 c2 t3 g3 o3 n3 c3 t4 g4 o4 n4 c4).ex (gA52sssc vs T zs bs g ga off n cp ca t2 g2 o2 n2 c2 t3 g3 o3 n3 c3 t4 g4 o4 n4 c4).fm (gA52sssc vs T zs bs g ga off n cp ca t2 g2 o2 n2 c2 t3 g3 o3 n3 c3 t4 g4 o4 n4 c4).tab := by
  obtain ⟨hT, hv, h1, h2, h3, h4, h5, _⟩ := h.h
  simp only [Con.h] at hT hv h1 h2 h3 h4 h5
  injection hv with hv
  subst hT hv
  exact To.base (by decide) (loop52sss h1 h2 h3 h4 h5)
noncomputable def gA52sss : List AVal → Tab → Out := fun vs T => gA52sssc vs T (xsAt T 0) (xsAt T 5) (gAt T 0) (gAt T 1) (offOf (vAt vs 2)) (lenOf (vAt vs 2)) (capOf (vAt vs 2)) (capOf (vAt vs 0)) (xsAt T 2) (gAt T 2) (offOf (vAt (aggAt T 1) 0)) (lenOf (vAt (aggAt T 1) 0)) (capOf (vAt (aggAt T 1) 0)) (xsAt T 3) (gAt T 3) (offOf (vAt (aggAt T 1) 1)) (lenOf (vAt (aggAt T 1) 1)) (capOf (vAt (aggAt T 1) 1)) (xsAt T 4) (gAt T 4) (offOf (vAt (aggAt T 1) 2)) (lenOf (vAt (aggAt T 1) 2)) (capOf (vAt (aggAt T 1) 2))
theorem gA52sss_ok : BlkOk eP f52 0 (.loop (roundOf 0 f52)) (blkGC 5 [0,1,2,3,4,6] [2,7,15,16,17] gA52sss) := blkGC_ok fun vs T h => gA52sssc_ok h
noncomputable def orc52sss : OrcL := [(0, blkGC 5 [0,1,2,3,4,6] [2,7,15,16,17] gA52sss)]
theorem orc52sss_ok : FnOrc eP f52 orc52sss := FnOrc.cons gA52sss_ok (by kernel_rfl) FnOrc.nil
noncomputable def R52sss (zs : List Int) (x : Int) (g ga off n : Nat) (cp ca : Option Nat) (t2 t3 t4 : List Int) (g2 o2 n2 g3 o3 n3 g4 o4 n4 : Nat) (c2 c3 c4 : Option Nat) : Res := resG 5 [0,1,2,3,4,6] (runF eP f52 orc52sss 400 [.slice 1 0 g off n cp, .int .u8 x, .slice 1 1 ga 0 3 ca] [some ⟨.ints .u8 zs, g, false, 5⟩, some ⟨.agg [.slice 1 2 g2 o2 n2 c2, .slice 1 3 g3 o3 n3 c3, .slice 1 4 g4 o4 n4 c4], ga, false, 22⟩, some ⟨.ints .u8 t2, g2, false, 5⟩, some ⟨.ints .u8 t3, g3, false, 5⟩, some ⟨.ints .u8 t4, g4, false, 5⟩] [])
theorem R52sss_ok {zs : List Int} {x : Int} {g ga off n : Nat} {cp ca : Option Nat} {t2 t3 t4 : List Int} {g2 o2 n2 g3 o3 n3 g4 o4 n4 : Nat} {c2 c3 c4 : Option Nat} (h : allP [.eqN g g, .leN (off + n) zs.length, .leN n 64, .p (BsLaw zs), .p (BsLaw (repLaw x)), .eqN ga ga, .eqN ga ga, .eqN ga ga, .leN 64 (xkLaw (repLaw x) (subLaw zs off n)).length, .leN (64 + n2) 140737488355328, .eqN g2 g2, .leN
 (o2 + n2) t2.length, .eqN ga ga, .eqN ga ga, .leN (0 + (64 + n2)) (List.take 64 (xkLaw (repLaw x) (subLaw zs off n)) ++ List.take n2 (dropO o2 t2)).length, .leN (addO (64 + n2) n3) 140737488355328, .eqN g3 g3, .leN (o3 + n3) t3.length, .eqN ga ga, .eqN ga ga, .leN (0 + addO (64 + n2) n3) (List.take (64 + n2) (List.take 64 (xkLaw (repLaw x) (subLaw zs off n)) ++ List.take n2 (dropO o2 t2)) ++
 List.take n3 (dropO o3 t3)).length, .leN (addO (addO (64 + n2) n3) n4) 140737488355328, .eqN g4 g4, .leN (o4 + n4) t4.length, .leN (0 + addO (addO (64 + n2) n3) n4) (List.take (addO (64 + n2) n3) (List.take (64 + n2) (List.take 64 (xkLaw (repLaw x) (subLaw zs off n)) ++ List.take n2 (dropO o2 t2)) ++ List.take n3 (dropO o3 t3)) ++ List.take n4 (dropO o4 t4)).length, .leN (addO (addO (64 + n2) n3)
 n4) 140737488355000, .p (BsLaw (List.take (addO (64 + n2) n3) (List.take (64 + n2) (List.take 64 (xkLaw (repLaw x) (subLaw zs off n)) ++ List.take n2 (dropO o2 t2)) ++ List.take n3 (dropO o3 t3)) ++ List.take n4 (dropO o4 t4))), .p (capLaw (addO (addO (64 + n2) n3) n4) none)]) : OkR (R52sss zs x g ga off n cp ca t2 t3 t4 g2 o2 n2 g3 o3 n3 g4 o4 n4 c2 c3 c4) := OkR.dem (fl := bitsF 58
 3970756154951695) (by kernel_rfl) (by kernel_rfl) (by kernel_rfl) h
theorem R52sss_val {zs : List Int} {x : Int} {g ga off n : Nat} {cp ca : Option Nat} {t2 t3 t4 : List Int} {g2 o2 n2 g3 o3 n3 g4 o4 n4 : Nat} {c2 c3 c4 : Option Nat} : (R52sss zs x g ga off n cp ca t2 t3 t4 g2 o2 n2 g3 o3 n3 g4 o4 n4 c2 c3 c4).val = .slice 1 5 31 0 32 none := by kernel_rfl
theorem R52sss_tab {zs : List Int} {x : Int} {g ga off n : Nat} {cp ca : Option Nat} {t2 t3 t4 : List Int} {g2 o2 n2 g3 o3 n3 g4 o4 n4 : Nat} {c2 c3 c4 : Option Nat} : (R52sss zs x g ga off n cp ca t2 t3 t4 g2 o2 n2 g3 o3 n3 g4 o4 n4 c2 c3 c4).tab = [some ⟨.ints .u8 zs, g, false, 5⟩, some ⟨.agg [.slice 1 2 g2 o2 n2 c2, .slice 1 3 g3 o3 n3 c3, .slice 1 4 g4 o4 n4 c4], ga, false, 22⟩, some ⟨.ints .u8
 t2, g2, false, 5⟩, some ⟨.ints .u8 t3, g3, false, 5⟩, some ⟨.ints .u8 t4, g4, false, 5⟩, some ⟨.ints .u8 (sum32Law (subLaw (List.take (addO (64 + n2) n3) (List.take (64 + n2) (List.take 64 (xkLaw (repLaw x) (subLaw zs off n)) ++ List.take n2 (dropO o2 t2)) ++ List.take n3 (dropO o3 t3)) ++ List.take n4 (dropO o4 t4)) 0 (addO (addO (64 + n2) n3) n4))), 31, true, 5⟩] := by kernel_rfl
/-! texts nns -/
theorem loop52nns {zs bs : List Int} {g ga off n : Nat} {cp ca : Option Nat} {t2 : List Int} {g2 o2 n2 : Nat} {c2 : Option Nat} (h1 : off + n ≤ zs.length) (h2 : n ≤ 64) (h3 : bs.length = 64) (hz : BsLaw zs) (hb : BsLaw bs) :
    To eP 42 4 (.block 0 (.loop (roundOf 0 f52))) [(2, .slice 1 1 ga 0 3 ca), (7, .slice 1 3 0 0 64 (some 64)), (15, .slice 1 0 g off n cp), (16, .int .i64 n), (17, .int .i64 0)] [some ⟨.ints .u8 zs, g, false, 5⟩, some ⟨.agg [.nilSlice, .nilSlice, .slice 1 2 g2 o2 n2 c2], ga, false, 22⟩, some ⟨.ints .u8 t2, g2, false, 5⟩, some ⟨.ints .u8 bs, 0, true, 5⟩] .normal [(2, .slice 1 1 ga 0 3 ca), (7, .slice 1 3 0 0 64 (some 64))] [some ⟨.ints .u8 zs, g, false, 5⟩, some ⟨.agg [.nilSlice, .nilSlice, .slice 1 2 g2 o2 n2 c2], ga, false, 22⟩, some ⟨.ints .u8 t2, g2, false, 5⟩, some ⟨.ints .u8 (xkLaw bs (subLaw zs off n)), 0, true, 5⟩] := by
  have hl := subLaw_len h1
  refine To.start (T0 := [some ⟨.ints .u8 zs, g, false, 5⟩, some ⟨.agg [.nilSlice, .nilSlice, .slice 1 2 g2 o2 n2 c2], ga, false, 22⟩, some ⟨.ints .u8 t2, g2, false, 5⟩, some ⟨.ints .u8 (xkLaw bs ((subLaw zs off n).take 0)), 0, true, 5⟩]) (by rw [List.take_zero, xk_nil]) ?_
  refine To.rounds (fun i => [(2, .slice 1 1 ga 0 3 ca), (7, .slice 1 3 0 0 64 (some 64)), (15, .slice 1 0 g off n cp), (16, .int .i64 n), (17, .int .i64 (i : Nat))]) (fun i => [some ⟨.ints .u8 zs, g, false, 5⟩, some ⟨.agg [.nilSlice, .nilSlice, .slice 1 2 g2 o2 n2 c2], ga, false, 22⟩, some ⟨.ints .u8 t2, g2, false, 5⟩, some ⟨.ints .u8 (xkLaw bs ((subLaw zs off n).take i)), 0, true, 5⟩]) n (fun i hi => ?_)
    (To.of (o := B52nns zs (xkLaw bs (subLaw zs off n)) g ga off n cp ca n t2 g2 o2 n2 c2) eP_ok hmS (Nat.le_refl 4) OrcOk.nil (by rw [List.take_of_length_le (by omega)]; rfl) (B52nns_ok (by simp [allP, Con.h])) B52nns_ex B52nns_fm B52nns_tab)
  obtain ⟨k1, k2⟩ := xk_next i bs (subLaw zs off n) (by omega) (by omega)
  have hx : BsLaw (xkLaw bs ((subLaw zs off n).take i)) := hb.xk (BsLaw.take (hz.sub off n) i)
  have e1 : (subLaw zs off n).getD i 0 = zs.getD (off + i) 0 := subLaw_get hi
  have hxl : (xkLaw bs ((subLaw zs off n).take i)).length = 64 := by rw [xk_len, h3]
  refine To.of (o := A52nns zs (xkLaw bs ((subLaw zs off n).take i)) g ga off n cp ca i t2 g2 o2 n2 c2) eP_ok hmS (Nat.le_refl 4) OrcOk.nil rfl (A52nns_ok ?_) A52nns_ex A52nns_fm ?_
  · have hx1 := hx i
    have hx2 := hz (off + i)
    simp only [allP, Con.h, nonneg, addO_eq, Int.toNat_natCast, hxl, hx1, hx2, decide_eq_true_eq, eq_self, true_and, and_true]
    omega
  · rw [A52nns_tab, addO_eq, Int.toNat_natCast, k1, ← e1, k2]
noncomputable def gA52nnsc (vs : List AVal) (T : Tab) (zs : List Int) (bs : List Int) (g : Nat) (ga : Nat) (off : Nat) (n : Nat) (cp : Option Nat) (ca : Option Nat) (t2 : List Int) (g2 : Nat) (o2 : Nat) (n2 : Nat) (c2 : Option Nat) : Out := ⟨[.tab T [some ⟨.ints .u8 zs, g, false, 5⟩, some ⟨.agg [.nilSlice, .nilSlice, .slice 1 2 g2 o2 n2 c2], ga, false, 22⟩, some ⟨.ints .u8 t2, g2, false, 5⟩, some ⟨.ints .u8 bs, 0, true, 5⟩], .val (.tuple vs) (.tuple [.slice 1 1 ga 0 3 ca, .slice 1 3 0 0 64 (some 64), .slice 1 0 g off n cp, .int .i64 n, .int .i64 0]), .leN (off + n) zs.length, .leN n 64, .eqN bs.length 64, .p (BsLaw zs), .p (BsLaw bs)], .normal, [(2, .slice 1 1 ga 0 3 ca), (7, .slice 1 3 0 0 64 (some 64))], [some ⟨.ints .u8 zs, g, false, 5⟩, some ⟨.agg [.nilSlice, .nilSlice, .slice 1 2 g2 o2 n2 c2], ga, false, 22⟩, some ⟨.ints .u8 t2, g2, false, 5⟩, some ⟨.ints .u8 (xkLaw bs (subLaw zs off n)), 0, true, 5⟩], []⟩
theorem gA52nnsc_ok {vs : List AVal} {T : Tab} {zs : List Int} {bs : List Int} {g : Nat} {ga : Nat} {off : Nat} {n : Nat} {cp : Option Nat} {ca : Option Nat} {t2 : List Int} {g2 : Nat} {o2 : Nat} {n2 : Nat} {c2 : Option Nat} (h : Ok (gA52nnsc vs T zs bs g ga off n cp ca t2 g2 o2 n2 c2)) : To eP 42 3 (.block 0 (.loop (roundOf 0 f52))) (zipF [2,7,15,16,17] vs) T (gA52nnsc vs T zs bs g ga off n cp ca t2 g2 o2 n2 c2).ex (gA52nnsc vs T zs bs g ga off n cp ca t2 g2 o2 n2 c2).fm (gA52nnsc vs T zs bs g ga off n cp ca t2 g2 o2 n2 c2).tab := by
  obtain ⟨hT, hv, h1, h2, h3, h4, h5, _⟩ := h.h
  simp only [Con.h] at hT hv h1 h2 h3 h4 h5
  injection hv with hv
  subst hT hv
  exact To.base (by decide) (loop52nns h1 h2 h3 h4 h5)
noncomputable def gA52nns : List AVal → Tab → Out := fun vs T => gA52nnsc vs T (xsAt T 0) (xsAt T 3) (gAt T 0) (gAt T 1) (offOf (vAt vs 2)) (lenOf (vAt vs 2)) (capOf (vAt vs 2)) (capOf (vAt vs 0)) (xsAt T 2) (gAt T 2) (offOf (vAt (aggAt T 1) 2)) (lenOf (vAt (aggAt T 1) 2)) (capOf (vAt (aggAt T 1) 2))
theorem gA52nns_ok : BlkOk eP f52 0 (.loop (roundOf 0 f52)) (blkGC 3 [0,1,2,4] [2,7,15,16,17] gA52nns) := blkGC_ok fun vs T h => gA52nnsc_ok h
noncomputable def orc52nns : OrcL := [(0, blkGC 3 [0,1,2,4] [2,7,15,16,17] gA52nns)]
theorem orc52nns_ok : FnOrc eP f52 orc52nns := FnOrc.cons gA52nns_ok (by kernel_rfl) FnOrc.nil
noncomputable def R52nns (zs : List Int) (x : Int) (g ga off n : Nat) (cp ca : Option Nat) (t2 : List Int) (g2 o2 n2 : Nat) (c2 : Option Nat) : Res := resG 3 [0,1,2,4] (runF eP f52 orc52nns 400 [.slice 1 0 g off n cp, .int .u8 x, .slice 1 1 ga 0 3 ca] [some ⟨.ints .u8 zs, g, false, 5⟩, some ⟨.agg [.nilSlice, .nilSlice, .slice 1 2 g2 o2 n2 c2], ga, false, 22⟩, some ⟨.ints .u8 t2, g2, false, 5⟩] [])
theorem R52nns_ok {zs : List Int} {x : Int} {g ga off n : Nat} {cp ca : Option Nat} {t2 : List Int} {g2 o2 n2 : Nat} {c2 : Option Nat} (h : allP [.eqN g g, .leN (off + n) zs.length, .leN n 64, .p (BsLaw zs), .p (BsLaw (repLaw x)), .eqN ga ga, .eqN ga ga, .eqN ga ga, .leN 64 (xkLaw (repLaw x) (subLaw zs off n)).length, .eqN ga ga, .eqN ga ga, .leN 64 (List.take 64 (xkLaw (repLaw x) (subLaw zs off
 n)) ++ []).length, .eqN ga ga, .eqN ga ga, .leN 64 (List.take 64 (List.take 64 (xkLaw (repLaw x) (subLaw zs off n)) ++ []) ++ []).length, .leN (64 + n2) 140737488355328, .eqN g2 g2, .leN (o2 + n2) t2.length, .leN (0 + (64 + n2)) (List.take 64 (List.take 64 (List.take 64 (xkLaw (repLaw x) (subLaw zs off n)) ++ []) ++ []) ++ List.take n2 (dropO o2 t2)).length, .leN (64 + n2) 140737488355000, .p
 (BsLaw (List.take 64 (List.take 64 (List.take 64 (xkLaw (repLaw x) (subLaw zs off n)) ++ []) ++ []) ++ List.take n2 (dropO o2 t2))), .p (capLaw (64 + n2) none)]) : OkR (R52nns zs x g ga off n cp ca t2 g2 o2 n2 c2) := OkR.dem (fl := bitsF 52 62043870398479) (by kernel_rfl) (by kernel_rfl) (by kernel_rfl) h
theorem R52nns_val {zs : List Int} {x : Int} {g ga off n : Nat} {cp ca : Option Nat} {t2 : List Int} {g2 o2 n2 : Nat} {c2 : Option Nat} : (R52nns zs x g ga off n cp ca t2 g2 o2 n2 c2).val = .slice 1 3 31 0 32 none := by kernel_rfl
theorem R52nns_tab {zs : List Int} {x : Int} {g ga off n : Nat} {cp ca : Option Nat} {t2 : List Int} {g2 o2 n2 : Nat} {c2 : Option Nat} : (R52nns zs x g ga off n cp ca t2 g2 o2 n2 c2).tab = [some ⟨.ints .u8 zs, g, false, 5⟩, some ⟨.agg [.nilSlice, .nilSlice, .slice 1 2 g2 o2 n2 c2], ga, false, 22⟩, some ⟨.ints .u8 t2, g2, false, 5⟩, some ⟨.ints .u8 (sum32Law (subLaw (List.take 64 (List.take 64
 (List.take 64 (xkLaw (repLaw x) (subLaw zs off n)) ++ []) ++ []) ++ List.take n2 (dropO o2 t2)) 0 (64 + n2))), 31, true, 5⟩] := by kernel_rfl
/-! texts sns -/
theorem loop52sns {zs bs : List Int} {g ga off n : Nat} {cp ca : Option Nat} {t2 t3 : List Int} {g2 o2 n2 g3 o3 n3 : Nat} {c2 c3 : Option Nat} (h1 : off + n ≤ zs.length) (h2 : n ≤ 64) (h3 : bs.length = 64) (hz : BsLaw zs) (hb : BsLaw bs) :
    To eP 42 5 (.block 0 (.loop (roundOf 0 f52))) [(2, .slice 1 1 ga 0 3 ca), (7, .slice 1 4 0 0 64 (some 64)), (15, .slice 1 0 g off n cp), (16, .int .i64 n), (17, .int .i64 0)] [some ⟨.ints .u8 zs, g, false, 5⟩, some ⟨.agg [.slice 1 2 g2 o2 n2 c2, .nilSlice, .slice 1 3 g3 o3 n3 c3], ga, false, 22⟩, some ⟨.ints .u8 t2, g2, false, 5⟩, some ⟨.ints .u8 t3, g3, false, 5⟩, some ⟨.ints .u8 bs, 0, true, 5⟩] .normal [(2, .slice 1 1 ga 0 3 ca), (7, .slice 1 4 0 0 64 (some 64))] [some ⟨.ints .u8 zs, g, false, 5⟩, some ⟨.agg [.slice 1 2 g2 o2 n2 c2, .nilSlice, .slice 1 3 g3 o3 n3 c3], ga, false, 22⟩, some ⟨.ints .u8 t2, g2, false, 5⟩, some ⟨.ints .u8 t3, g3, false, 5⟩, some ⟨.ints .u8 (xkLaw bs (subLaw zs off n)), 0, true, 5⟩] := by
  have hl := subLaw_len h1
  refine To.start (T0 := [some ⟨.ints .u8 zs, g, false, 5⟩, some ⟨.agg [.slice 1 2 g2 o2 n2 c2, .nilSlice, .slice 1 3 g3 o3 n3 c3], ga, false, 22⟩, some ⟨.ints .u8 t2, g2, false, 5⟩, some ⟨.ints .u8 t3, g3, false, 5⟩, some ⟨.ints .u8 (xkLaw bs ((subLaw zs off n).take 0)), 0, true, 5⟩]) (by rw [List.take_zero, xk_nil]) ?_
  refine To.rounds (fun i => [(2, .slice 1 1 ga 0 3 ca), (7, .slice 1 4 0 0 64 (some 64)), (15, .slice 1 0 g off n cp), (16, .int .i64 n), (17, .int .i64 (i : Nat))]) (fun i => [some ⟨.ints .u8 zs, g, false, 5⟩, some ⟨.agg [.slice 1 2 g2 o2 n2 c2, .nilSlice, .slice 1 3 g3 o3 n3 c3], ga, false, 22⟩, some ⟨.ints .u8 t2, g2, false, 5⟩, some ⟨.ints .u8 t3, g3, false, 5⟩, some ⟨.ints .u8 (xkLaw bs ((subLaw zs off n).take i)), 0, true, 5⟩]) n (fun i hi => ?_)
    (To.of (o := B52sns zs (xkLaw bs (subLaw zs off n)) g ga off n cp ca n t2 t3 g2 o2 n2 g3 o3 n3 c2 c3) eP_ok hmS (Nat.le_refl 5) OrcOk.nil (by rw [List.take_of_length_le (by omega)]; rfl) (B52sns_ok (by simp [allP, Con.h])) B52sns_ex B52sns_fm B52sns_tab)
  obtain ⟨k1, k2⟩ := xk_next i bs (subLaw zs off n) (by omega) (by omega)
  have hx : BsLaw (xkLaw bs ((subLaw zs off n).take i)) := hb.xk (BsLaw.take (hz.sub off n) i)
  have e1 : (subLaw zs off n).getD i 0 = zs.getD (off + i) 0 := subLaw_get hi
  have hxl : (xkLaw bs ((subLaw zs off n).take i)).length = 64 := by rw [xk_len, h3]
  refine To.of (o := A52sns zs (xkLaw bs ((subLaw zs off n).take i)) g ga off n cp ca i t2 t3 g2 o2 n2 g3 o3 n3 c2 c3) eP_ok hmS (Nat.le_refl 5) OrcOk.nil rfl (A52sns_ok ?_) A52sns_ex A52sns_fm ?_
  · have hx1 := hx i
    have hx2 := hz (off + i)
    simp only [allP, Con.h, nonneg, addO_eq, Int.toNat_natCast, hxl, hx1, hx2, decide_eq_true_eq, eq_self, true_and, and_true]
    omega
  · rw [A52sns_tab, addO_eq, Int.toNat_natCast, k1, ← e1, k2]
noncomputable def gA52snsc (vs : List AVal) (T : Tab) (zs : List Int) (bs : List Int) (g : Nat) (ga : Nat) (off : Nat) (n : Nat) (cp : Option Nat) (ca : Option Nat) (t2 : List Int) (g2 : Nat) (o2 : Nat) (n2 : Nat) (c2 : Option Nat) (t3 : List Int) (g3 : Nat) (o3 : Nat) (n3 : Nat) (c3 : Option Nat) : Out := ⟨[.tab T [some ⟨.ints .u8 zs, g, false, 5⟩, some ⟨.agg [.slice 1 2 g2 o2 n2 c2, .nilSlice, .slice 1 3 g3 o3 n3 c3], ga, false, 22⟩, some ⟨.ints .u8 t2, g2, false, 5⟩, some ⟨.ints .u8 t3, g3, false, 5⟩, some ⟨.ints .u8 bs, 0, true, 5⟩], .val (.tuple vs) (.tuple [.slice 1 1 ga 0 3 ca, .slice 1 4 0 0 64 (some 64), .slice 1 0 g off n cp, .int .i64 n, .int .i64 0]), .leN (off + n) zs.length, .leN n 64, .eqN bs.length 64, .p (BsLaw zs), .p (BsLaw bs)], .normal, [(2, .slice 1 1 ga 0 3 ca), (7, .slice 1 4 0 0 64 (some 64))], [some ⟨.ints .u8 zs, g, false, 5⟩, some ⟨.agg [.slice 1 2 g2 o2 n2 c2, .nilSlice, .slice 1 3 g3 o3 n3 c3], ga, false, 22⟩, some ⟨.ints .u8 t2, g2, false, 5⟩, some ⟨.ints .u8 t3, g3, false, 5⟩, some ⟨.ints .u8 (xkLaw bs (subLaw zs off n)), 0, true, 5⟩], []⟩
theorem gA52snsc_ok {vs : List AVal} {T : Tab} {zs : List Int} {bs : List Int} {g : Nat} {ga : Nat} {off : Nat} {n : Nat} {cp : Option Nat} {ca : Option Nat} {t2 : List Int} {g2 : Nat} {o2 : Nat} {n2 : Nat} {c2 : Option Nat} {t3 : List Int} {g3 : Nat} {o3 : Nat} {n3 : Nat} {c3 : Option Nat} (h : Ok (gA52snsc vs T zs bs g ga off n cp ca t2 g2 o2 n2 c2 t3 g3 o3 n3 c3)) : To eP 42 4 (.block 0 (.loop (roundOf 0 f52))) (zipF [2,7,15,16,17] vs) T (gA52snsc vs T zs bs g ga off n cp ca t2 g2 o2 n2 c2 t3 g3 o3 n3 c3).ex (gA52snsc vs T zs bs g ga off n cp ca t2 g2 o2 n2 c2 t3 g3 o3 n3 c3).fm (gA52snsc vs T zs bs g ga off n cp ca t2 g2 o2 n2 c2 t3 g3 o3 n3 c3).tab := by
  obtain ⟨hT, hv, h1, h2, h3, h4, h5, _⟩ := h.h
  simp only [Con.h] at hT hv h1 h2 h3 h4 h5
  injection hv with hv
  subst hT hv
  exact To.base (by decide) (loop52sns h1 h2 h3 h4 h5)
noncomputable def gA52sns : List AVal → Tab → Out := fun vs T => gA52snsc vs T (xsAt T 0) (xsAt T 4) (gAt T 0) (gAt T 1) (offOf (vAt vs 2)) (lenOf (vAt vs 2)) (capOf (vAt vs 2)) (capOf (vAt vs 0)) (xsAt T 2) (gAt T 2) (offOf (vAt (aggAt T 1) 0)) (lenOf (vAt (aggAt T 1) 0)) (capOf (vAt (aggAt T 1) 0)) (xsAt T 3) (gAt T 3) (offOf (vAt (aggAt T 1) 2)) (lenOf (vAt (aggAt T 1) 2)) (capOf (vAt (aggAt T 1) 2))
theorem gA52sns_ok : BlkOk eP f52 0 (.loop (roundOf 0 f52)) (blkGC 4 [0,1,2,3,5] [2,7,15,16,17] gA52sns) := blkGC_ok fun vs T h => gA52snsc_ok h
noncomputable def orc52sns : OrcL := [(0, blkGC 4 [0,1,2,3,5] [2,7,15,16,17] gA52sns)]
theorem orc52sns_ok : FnOrc eP f52 orc52sns := FnOrc.cons gA52sns_ok (by kernel_rfl) FnOrc.nil
noncomputable def R52sns (zs : List Int) (x : Int) (g ga off n : Nat) (cp ca : Option Nat) (t2 t3 : List Int) (g2 o2 n2 g3 o3 n3 : Nat) (c2 c3 : Option Nat) : Res := resG 4 [0,1,2,3,5] (runF eP f52 orc52sns 400 [.slice 1 0 g off n cp, .int .u8 x, .slice 1 1 ga 0 3 ca] [some ⟨.ints .u8 zs, g, false, 5⟩, some ⟨.agg [.slice 1 2 g2 o2 n2 c2, .nilSlice, .slice 1 3 g3 o3 n3 c3], ga, false, 22⟩, some ⟨.ints .u8 t2, g2, false, 5⟩, some ⟨.ints .u8 t3, g3, false, 5⟩] [])
theorem R52sns_ok {zs : List Int} {x : Int} {g ga off n : Nat} {cp ca : Option Nat} {t2 t3 : List Int} {g2 o2 n2 g3 o3 n3 : Nat} {c2 c3 : Option Nat} (h : allP [.eqN g g, .leN (off + n) zs.length, .leN n 64, .p (BsLaw zs), .p (BsLaw (repLaw x)), .eqN ga ga, .eqN ga ga, .eqN ga ga, .leN 64 (xkLaw (repLaw x) (subLaw zs off n)).length, .leN (64 + n2) 140737488355328, .eqN g2 g2, .leN (o2 + n2)
 t2.length, .eqN ga ga, .eqN ga ga, .leN (0 + (64 + n2)) (List.take 64 (xkLaw (repLaw x) (subLaw zs off n)) ++ List.take n2 (dropO o2 t2)).length, .leN (addO (64 + n2) 0) 140737488355328, .eqN ga ga, .eqN ga ga, .leN (0 + addO (64 + n2) 0) (List.take (64 + n2) (List.take 64 (xkLaw (repLaw x) (subLaw zs off n)) ++ List.take n2 (dropO o2 t2)) ++ []).length, .leN (addO (addO (64 + n2) 0) n3)
 140737488355328, .eqN g3 g3, .leN (o3 + n3) t3.length, .leN (0 + addO (addO (64 + n2) 0) n3) (List.take (addO (64 + n2) 0) (List.take (64 + n2) (List.take 64 (xkLaw (repLaw x) (subLaw zs off n)) ++ List.take n2 (dropO o2 t2)) ++ []) ++ List.take n3 (dropO o3 t3)).length, .leN (addO (addO (64 + n2) 0) n3) 140737488355000, .p (BsLaw (List.take (addO (64 + n2) 0) (List.take (64 + n2) (List.take 64
 (xkLaw (repLaw x) (subLaw zs off n)) ++ List.take n2 (dropO o2 t2)) ++ []) ++ List.take n3 (dropO o3 t3))), .p (capLaw (addO (addO (64 + n2) 0) n3) none)]) : OkR (R52sns zs x g ga off n cp ca t2 t3 g2 o2 n2 g3 o3 n3 c2 c3) := OkR.dem (fl := bitsF 55 496333770917903) (by kernel_rfl) (by kernel_rfl) (by kernel_rfl) h
theorem R52sns_val {zs : List Int} {x : Int} {g ga off n : Nat} {cp ca : Option Nat} {t2 t3 : List Int} {g2 o2 n2 g3 o3 n3 : Nat} {c2 c3 : Option Nat} : (R52sns zs x g ga off n cp ca t2 t3 g2 o2 n2 g3 o3 n3 c2 c3).val = .slice 1 4 31 0 32 none := by kernel_rfl
theorem R52sns_tab {zs : List Int} {x : Int} {g ga off n : Nat} {cp ca : Option Nat} {t2 t3 : List Int} {g2 o2 n2 g3 o3 n3 : Nat} {c2 c3 : Option Nat} : (R52sns zs x g ga off n cp ca t2 t3 g2 o2 n2 g3 o3 n3 c2 c3).tab = [some ⟨.ints .u8 zs, g, false, 5⟩, some ⟨.agg [.slice 1 2 g2 o2 n2 c2, .nilSlice, .slice 1 3 g3 o3 n3 c3], ga, false, 22⟩, some ⟨.ints .u8 t2, g2, false, 5⟩, some ⟨.ints .u8 t3, g3,
 false, 5⟩, some ⟨.ints .u8 (sum32Law (subLaw (List.take (addO (64 + n2) 0) (List.take (64 + n2) (List.take 64 (xkLaw (repLaw x) (subLaw zs off n)) ++ List.take n2 (dropO o2 t2)) ++ []) ++ List.take n3 (dropO o3 t3)) 0 (addO (addO (64 + n2) 0) n3))), 31, true, 5⟩] := by kernel_rfl
end Go.Abs

set_option linter.unusedVariables false
set_option linter.unusedSimpArgs false
set_option maxRecDepth 8000
set_option maxHeartbeats 4000000
namespace Go.Abs
open Go.Proofs Go.Proofs.Tryd
/-! ### padded: contracts -/
theorem sub_all {l : List Int} {m : Nat} (h : l.length = m) : subLaw l 0 m = l := by
  unfold subLaw; rw [List.drop_zero, List.take_of_length_le (by omega)]
theorem takeD (l : List Int) (o n : Nat) : List.take n (List.drop o l) = subLaw l o n := rfl
/-! texts s -/
noncomputable def sm52sc (args : List AVal) (T : Tab) (zs : List Int) (x : Int) (g : Nat) (ga : Nat) (off : Nat) (n : Nat) (cp : Option Nat) (ca : Option Nat) (t2 : List Int) (g2 : Nat) (o2 : Nat) (n2 : Nat) (c2 : Option Nat) : Res := ⟨[.tab T [some ⟨.ints .u8 zs, g, false, 5⟩, some ⟨.agg [.slice 1 2 g2 o2 n2 c2], ga, false, 22⟩, some ⟨.ints .u8 t2, g2, false, 5⟩], .val (.tuple args) (.tuple [.slice 1 0 g off n cp, .int .u8 x, .slice 1 1 ga 0 1 ca]), .leN (off + n) zs.length, .leN n 64, .p (BsLaw zs), .rng 0 x 255, .leN (o2 + n2) t2.length, .p (BsLaw t2), .leN (64 + n2) 140737488355000], .slice 1 3 31 0 32 none, [some ⟨.ints .u8 zs, g, false, 5⟩, some ⟨.agg [.slice 1 2 g2 o2 n2 c2], ga, false, 22⟩, some ⟨.ints .u8 t2, g2, false, 5⟩, some ⟨.ints .u8 (sum32Law (xkLaw (repLaw x) (subLaw zs off n) ++ subLaw t2 o2 n2)), 31, true, 5⟩]⟩
theorem sm52sc_ok {args : List AVal} {T : Tab} {zs : List Int} {x : Int} {g : Nat} {ga : Nat} {off : Nat} {n : Nat} {cp : Option Nat} {ca : Option Nat} {t2 : List Int} {g2 : Nat} {o2 : Nat} {n2 : Nat} {c2 : Option Nat} (h : allP (sm52sc args T zs x g ga off n cp ca t2 g2 o2 n2 c2).cs) : Small prog glS 52 args T (sm52sc args T zs x g ga off n cp ca t2 g2 o2 n2 c2).val (sm52sc args T zs x g ga off n cp ca t2 g2 o2 n2 c2).tab := by
  obtain ⟨hT, hv, h1, h2, h3, h4, h5, h6, h7, _⟩ := h
  simp only [Con.h] at hT hv h1 h2 h3 h4 h5 h6 h7
  injection hv with hv
  subst hT hv
  have hX : (xkLaw (repLaw x) (subLaw zs off n)).length = 64 := by rw [xk_len]; rfl
  have hB : BsLaw (repLaw x) := rep_bs ⟨h4.1, by have := h4.2; omega⟩
  have hXB : BsLaw (xkLaw (repLaw x) (subLaw zs off n)) := hB.xk (h3.sub off n)
  generalize hx : xkLaw (repLaw x) (subLaw zs off n) = X at hX hXB
  have w0 : List.take 64 X = X := List.take_of_length_le (by omega)
  have l2 : (subLaw t2 o2 n2).length = n2 := subLaw_len h5
  have b2 : BsLaw (X ++ subLaw t2 o2 n2) := hXB.append (h6.sub o2 n2)
  have m2 : (X ++ subLaw t2 o2 n2).length = 64 + n2 := by rw [List.length_append, l2, hX]
  have w2 : List.take (64 + n2) (X ++ subLaw t2 o2 n2) = X ++ subLaw t2 o2 n2 := List.take_of_length_le (Nat.le_of_eq m2)
  have hs : subLaw (X ++ subLaw t2 o2 n2) 0 (64 + n2) = X ++ subLaw t2 o2 n2 := sub_all m2
  have hcn := capLaw_none (64 + n2)
  refine small_ofG (R := R52s zs x g ga off n cp ca t2 g2 o2 n2 c2) (keep := [0,1,2,4]) eP_ok hmS (f := 52) (fn := f52) (by kernel_rfl) (by kernel_rfl) orc52s_ok rfl (R52s_ok ?_) R52s_val ?_
  · simp only [allP, Con.h, hx, addO_eq, dropO_eq, takeD, List.append_nil, Nat.add_zero, Nat.zero_add, w0, w2, m2, hX, b2, hB, hcn, h1, h2, h3, eq_self, true_and, and_true]
    omega
  · rw [R52s_tab]
    simp only [hx, addO_eq, dropO_eq, takeD, List.append_nil, Nat.add_zero, w0, w2, hs]
    subst hx
    rfl
noncomputable def sm52s : Summary := fun args T => sm52sc args T (xsAt T 0) (iOf (vAt args 1)) (gAt T 0) (gAt T 1) (offOf (vAt args 0)) (lenOf (vAt args 0)) (capOf (vAt args 0)) (capOf (vAt args 2)) (xsAt T 2) (gAt T 2) (offOf (vAt (aggAt T 1) 0)) (lenOf (vAt (aggAt T 1) 0)) (capOf (vAt (aggAt T 1) 0))
theorem sm52s_ok : SmOk prog glS 52 sm52s := fun args T h => sm52sc_ok h
/-! texts nss -/
noncomputable def sm52nssc (args : List AVal) (T : Tab) (zs : List Int) (x : Int) (g : Nat) (ga : Nat) (off : Nat) (n : Nat) (cp : Option Nat) (ca : Option Nat) (t2 : List Int) (g2 : Nat) (o2 : Nat) (n2 : Nat) (c2 : Option Nat) (t3 : List Int) (g3 : Nat) (o3 : Nat) (n3 : Nat) (c3 : Option Nat) : Res := ⟨[.tab T [some ⟨.ints .u8 zs, g, false, 5⟩, some ⟨.agg [.nilSlice, .slice 1 2 g2 o2 n2 c2, .slice 1 3 g3 o3 n3 c3], ga, false, 22⟩, some ⟨.ints .u8 t2, g2, false, 5⟩, some ⟨.ints .u8 t3, g3, false, 5⟩], .val (.tuple args) (.tuple [.slice 1 0 g off n cp, .int .u8 x, .slice 1 1 ga 0 3 ca]), .leN (off + n) zs.length, .leN n 64, .p (BsLaw zs), .rng 0 x 255, .leN (o2 + n2) t2.length, .p (BsLaw t2), .leN (o3 + n3) t3.length, .p (BsLaw t3), .leN (64 + n2 + n3) 140737488355000], .slice 1 4 31 0 32 none, [some ⟨.ints .u8 zs, g, false, 5⟩, some ⟨.agg [.nilSlice, .slice 1 2 g2 o2 n2 c2, .slice 1 3 g3 o3 n3 c3], ga, false, 22⟩, some ⟨.ints .u8 t2, g2, false, 5⟩, some ⟨.ints .u8 t3, g3, false, 5⟩, some ⟨.ints .u8 (sum32Law (xkLaw (repLaw x) (subLaw zs off n) ++ subLaw t2 o2 n2 ++ subLaw t3 o3 n3)), 31, true, 5⟩]⟩
theorem sm52nssc_ok {args : List AVal} {T : Tab} {zs : List Int} {x : Int} {g : Nat} {ga : Nat} {off : Nat} {n : Nat} {cp : Option Nat} {ca : Option Nat} {t2 : List Int} {g2 : Nat} {o2 : Nat} {n2 : Nat} {c2 : Option Nat} {t3 : List Int} {g3 : Nat} {o3 : Nat} {n3 : Nat} {c3 : Option Nat} (h : allP (sm52nssc args T zs x g ga off n cp ca t2 g2 o2 n2 c2 t3 g3 o3 n3 c3).cs) : Small prog glS 52 args T (sm52nssc args T zs x g ga off n cp ca t2 g2 o2 n2 c2 t3 g3 o3 n3 c3).val (sm52nssc args T zs x g ga off n cp ca t2 g2 o2 n2 c2 t3 g3 o3 n3 c3).tab := by
  obtain ⟨hT, hv, h1, h2, h3, h4, h5, h6, h7, h8, h9, _⟩ := h
  simp only [Con.h] at hT hv h1 h2 h3 h4 h5 h6 h7 h8 h9
  injection hv with hv
  subst hT hv
  have hX : (xkLaw (repLaw x) (subLaw zs off n)).length = 64 := by rw [xk_len]; rfl
  have hB : BsLaw (repLaw x) := rep_bs ⟨h4.1, by have := h4.2; omega⟩
  have hXB : BsLaw (xkLaw (repLaw x) (subLaw zs off n)) := hB.xk (h3.sub off n)
  generalize hx : xkLaw (repLaw x) (subLaw zs off n) = X at hX hXB
  have w0 : List.take 64 X = X := List.take_of_length_le (by omega)
  have l2 : (subLaw t2 o2 n2).length = n2 := subLaw_len h5
  have b2 : BsLaw (X ++ subLaw t2 o2 n2) := hXB.append (h6.sub o2 n2)
  have m2 : (X ++ subLaw t2 o2 n2).length = 64 + n2 := by rw [List.length_append, l2, hX]
  have w2 : List.take (64 + n2) (X ++ subLaw t2 o2 n2) = X ++ subLaw t2 o2 n2 := List.take_of_length_le (Nat.le_of_eq m2)
  have l3 : (subLaw t3 o3 n3).length = n3 := subLaw_len h7
  have b3 : BsLaw (X ++ subLaw t2 o2 n2 ++ subLaw t3 o3 n3) := b2.append (h8.sub o3 n3)
  have m3 : (X ++ subLaw t2 o2 n2 ++ subLaw t3 o3 n3).length = 64 + n2 + n3 := by rw [List.length_append, l3, m2]
  have w3 : List.take (64 + n2 + n3) (X ++ subLaw t2 o2 n2 ++ subLaw t3 o3 n3) = X ++ subLaw t2 o2 n2 ++ subLaw t3 o3 n3 := List.take_of_length_le (Nat.le_of_eq m3)
  have hs : subLaw (X ++ subLaw t2 o2 n2 ++ subLaw t3 o3 n3) 0 (64 + n2 + n3) = X ++ subLaw t2 o2 n2 ++ subLaw t3 o3 n3 := sub_all m3
  have hcn := capLaw_none (64 + n2 + n3)
  refine small_ofG (R := R52nss zs x g ga off n cp ca t2 t3 g2 o2 n2 g3 o3 n3 c2 c3) (keep := [0,1,2,3,5]) eP_ok hmS (f := 52) (fn := f52) (by kernel_rfl) (by kernel_rfl) orc52nss_ok rfl (R52nss_ok ?_) R52nss_val ?_
  · simp only [allP, Con.h, hx, addO_eq, dropO_eq, takeD, List.append_nil, Nat.add_zero, Nat.zero_add, w0, w2, w3, m2, m3, hX, b3, hB, hcn, h1, h2, h3, eq_self, true_and, and_true]
    omega
  · rw [R52nss_tab]
    simp only [hx, addO_eq, dropO_eq, takeD, List.append_nil, Nat.add_zero, w0, w2, w3, hs]
    subst hx
    rfl
noncomputable def sm52nss : Summary := fun args T => sm52nssc args T (xsAt T 0) (iOf (vAt args 1)) (gAt T 0) (gAt T 1) (offOf (vAt args 0)) (lenOf (vAt args 0)) (capOf (vAt args 0)) (capOf (vAt args 2)) (xsAt T 2) (gAt T 2) (offOf (vAt (aggAt T 1) 1)) (lenOf (vAt (aggAt T 1) 1)) (capOf (vAt (aggAt T 1) 1)) (xsAt T 3) (gAt T 3) (offOf (vAt (aggAt T 1) 2)) (lenOf (vAt (aggAt T 1) 2)) (capOf (vAt (aggAt T 1) 2))
theorem sm52nss_ok : SmOk prog glS 52 sm52nss := fun args T h => sm52nssc_ok h
/-! texts sss -/
noncomputable def sm52sssc (args : List AVal) (T : Tab) (zs : List Int) (x : Int) (g : Nat) (ga : Nat) (off : Nat) (n : Nat) (cp : Option Nat) (ca : Option Nat) (t2 : List Int) (g2 : Nat) (o2 : Nat) (n2 : Nat) (c2 : Option Nat) (t3 : List Int) (g3 : Nat) (o3 : Nat) (n3 : Nat) (c3 : Option Nat) (t4 : List Int) (g4 : Nat) (o4 : Nat) (n4 : Nat) (c4 : Option Nat) : Res := ⟨[.tab T [some ⟨.ints .u8 zs, g, false, 5⟩, some ⟨.agg [.slice 1 2 g2 o2 n2 c2, .slice 1 3 g3 o3 n3 c3, .slice 1 4 g4 o4 n4 c4], ga, false, 22⟩, some ⟨.ints .u8 t2, g2, false, 5⟩, some ⟨.ints .u8 t3, g3, false, 5⟩, some ⟨.ints .u8 t4, g4, false, 5⟩], .val (.tuple args) (.tuple [.slice 1 0 g off n cp, .int .u8 x, .slice 1 1 ga 0 3 ca]), .leN (off + n) zs.length, .leN n 64, .p (BsLaw zs), .rng 0 x 255, .leN (o2 + n2) t2.length, .p (BsLaw t2), .leN (o3 + n3) t3.length, .p (BsLaw t3), .leN (o4 + n4) t4.length, .p (BsLaw t4), .leN (64 + n2 + n3 + n4) 140737488355000], .slice 1 5 31 0 32 none, [some ⟨.ints .u8 zs, g, false, 5⟩, some ⟨.agg [.slice 1 2 g2 o2 n2 c2, .slice 1 3 g3 o3 n3 c3, .slice 1 4 g4 o4 n4 c4], ga, false, 22⟩, some ⟨.ints .u8 t2, g2, false, 5⟩, some ⟨.ints .u8 t3, g3, false, 5⟩, some ⟨.ints .u8 t4, g4, false, 5⟩, some ⟨.ints .u8 (sum32Law (xkLaw (repLaw x) (subLaw zs off n) ++ subLaw t2 o2 n2 ++ subLaw t3 o3 n3 ++ subLaw t4 o4 n4)), 31, true, 5⟩]⟩
theorem sm52sssc_ok {args : List AVal} {T : Tab} {zs : List Int} {x : Int} {g : Nat} {ga : Nat} {off : Nat} {n : Nat} {cp : Option Nat} {ca : Option Nat} {t2 : List Int} {g2 : Nat} {o2 : Nat} {n2 : Nat} {c2 : Option Nat} {t3 : List Int} {g3 : Nat} {o3 : Nat} {n3 : Nat} {c3 : Option Nat} {t4 : List Int} {g4 : Nat} {o4 : Nat} {n4 : Nat} {c4 : Option Nat} (h : allP (sm52sssc args T zs x g ga off n cp ca t2 g2 o2 n2 c2 t3 g3 o3 n3 c3 t4 g4 o4 n4 c4).cs) : Small prog glS 52 args T (sm52sssc args T zs x g ga off n cp ca t2 g2 o2 n2 c2 t3 g3 o3 n3 c3 t4 g4 o4 n4 c4).val (sm52sssc args T zs x g ga off n cp ca t2 g2 o2 n2 c2 t3 g3 o3 n3 c3 t4 g4 o4 n4 c4).tab := by
  obtain ⟨hT, hv, h1, h2, h3, h4, h5, h6, h7, h8, h9, h10, h11, _⟩ := h
  simp only [Con.h] at hT hv h1 h2 h3 h4 h5 h6 h7 h8 h9 h10 h11
  injection hv with hv
  subst hT hv
  have hX : (xkLaw (repLaw x) (subLaw zs off n)).length = 64 := by rw [xk_len]; rfl
  have hB : BsLaw (repLaw x) := rep_bs ⟨h4.1, by have := h4.2; omega⟩
  have hXB : BsLaw (xkLaw (repLaw x) (subLaw zs off n)) := hB.xk (h3.sub off n)
  generalize hx : xkLaw (repLaw x) (subLaw zs off n) = X at hX hXB
  have w0 : List.take 64 X = X := List.take_of_length_le (by omega)
  have l2 : (subLaw t2 o2 n2).length = n2 := subLaw_len h5
  have b2 : BsLaw (X ++ subLaw t2 o2 n2) := hXB.append (h6.sub o2 n2)
  have m2 : (X ++ subLaw t2 o2 n2).length = 64 + n2 := by rw [List.length_append, l2, hX]
  have w2 : List.take (64 + n2) (X ++ subLaw t2 o2 n2) = X ++ subLaw t2 o2 n2 := List.take_of_length_le (Nat.le_of_eq m2)
  have l3 : (subLaw t3 o3 n3).length = n3 := subLaw_len h7
  have b3 : BsLaw (X ++ subLaw t2 o2 n2 ++ subLaw t3 o3 n3) := b2.append (h8.sub o3 n3)
  have m3 : (X ++ subLaw t2 o2 n2 ++ subLaw t3 o3 n3).length = 64 + n2 + n3 := by rw [List.length_append, l3, m2]
  have w3 : List.take (64 + n2 + n3) (X ++ subLaw t2 o2 n2 ++ subLaw t3 o3 n3) = X ++ subLaw t2 o2 n2 ++ subLaw t3 o3 n3 := List.take_of_length_le (Nat.le_of_eq m3)
  have l4 : (subLaw t4 o4 n4).length = n4 := subLaw_len h9
  have b4 : BsLaw (X ++ subLaw t2 o2 n2 ++ subLaw t3 o3 n3 ++ subLaw t4 o4 n4) := b3.append (h10.sub o4 n4)
  have m4 : (X ++ subLaw t2 o2 n2 ++ subLaw t3 o3 n3 ++ subLaw t4 o4 n4).length = 64 + n2 + n3 + n4 := by rw [List.length_append, l4, m3]
  have w4 : List.take (64 + n2 + n3 + n4) (X ++ subLaw t2 o2 n2 ++ subLaw t3 o3 n3 ++ subLaw t4 o4 n4) = X ++ subLaw t2 o2 n2 ++ subLaw t3 o3 n3 ++ subLaw t4 o4 n4 := List.take_of_length_le (Nat.le_of_eq m4)
  have hs : subLaw (X ++ subLaw t2 o2 n2 ++ subLaw t3 o3 n3 ++ subLaw t4 o4 n4) 0 (64 + n2 + n3 + n4) = X ++ subLaw t2 o2 n2 ++ subLaw t3 o3 n3 ++ subLaw t4 o4 n4 := sub_all m4
  have hcn := capLaw_none (64 + n2 + n3 + n4)
  refine small_ofG (R := R52sss zs x g ga off n cp ca t2 t3 t4 g2 o2 n2 g3 o3 n3 g4 o4 n4 c2 c3 c4) (keep := [0,1,2,3,4,6]) eP_ok hmS (f := 52) (fn := f52) (by kernel_rfl) (by kernel_rfl) orc52sss_ok rfl (R52sss_ok ?_) R52sss_val ?_
  · simp only [allP, Con.h, hx, addO_eq, dropO_eq, takeD, List.append_nil, Nat.add_zero, Nat.zero_add, w0, w2, w3, w4, m2, m3, m4, hX, b4, hB, hcn, h1, h2, h3, eq_self, true_and, and_true]
    omega
  · rw [R52sss_tab]
    simp only [hx, addO_eq, dropO_eq, takeD, List.append_nil, Nat.add_zero, w0, w2, w3, w4, hs]
    subst hx
    rfl
noncomputable def sm52sss : Summary := fun args T => sm52sssc args T (xsAt T 0) (iOf (vAt args 1)) (gAt T 0) (gAt T 1) (offOf (vAt args 0)) (lenOf (vAt args 0)) (capOf (vAt args 0)) (capOf (vAt args 2)) (xsAt T 2) (gAt T 2) (offOf (vAt (aggAt T 1) 0)) (lenOf (vAt (aggAt T 1) 0)) (capOf (vAt (aggAt T 1) 0)) (xsAt T 3) (gAt T 3) (offOf (vAt (aggAt T 1) 1)) (lenOf (vAt (aggAt T 1) 1)) (capOf (vAt (aggAt T 1) 1)) (xsAt T 4) (gAt T 4) (offOf (vAt (aggAt T 1) 2)) (lenOf (vAt (aggAt T 1) 2)) (capOf (vAt (aggAt T 1) 2))
theorem sm52sss_ok : SmOk prog glS 52 sm52sss := fun args T h => sm52sssc_ok h
/-! texts nns -/
noncomputable def sm52nnsc (args : List AVal) (T : Tab) (zs : List Int) (x : Int) (g : Nat) (ga : Nat) (off : Nat) (n : Nat) (cp : Option Nat) (ca : Option Nat) (t2 : List Int) (g2 : Nat) (o2 : Nat) (n2 : Nat) (c2 : Option Nat) : Res := ⟨[.tab T [some ⟨.ints .u8 zs, g, false, 5⟩, some ⟨.agg [.nilSlice, .nilSlice, .slice 1 2 g2 o2 n2 c2], ga, false, 22⟩, some ⟨.ints .u8 t2, g2, false, 5⟩], .val (.tuple args) (.tuple [.slice 1 0 g off n cp, .int .u8 x, .slice 1 1 ga 0 3 ca]), .leN (off + n) zs.length, .leN n 64, .p (BsLaw zs), .rng 0 x 255, .leN (o2 + n2) t2.length, .p (BsLaw t2), .leN (64 + n2) 140737488355000], .slice 1 3 31 0 32 none, [some ⟨.ints .u8 zs, g, false, 5⟩, some ⟨.agg [.nilSlice, .nilSlice, .slice 1 2 g2 o2 n2 c2], ga, false, 22⟩, some ⟨.ints .u8 t2, g2, false, 5⟩, some ⟨.ints .u8 (sum32Law (xkLaw (repLaw x) (subLaw zs off n) ++ subLaw t2 o2 n2)), 31, true, 5⟩]⟩
theorem sm52nnsc_ok {args : List AVal} {T : Tab} {zs : List Int} {x : Int} {g : Nat} {ga : Nat} {off : Nat} {n : Nat} {cp : Option Nat} {ca : Option Nat} {t2 : List Int} {g2 : Nat} {o2 : Nat} {n2 : Nat} {c2 : Option Nat} (h : allP (sm52nnsc args T zs x g ga off n cp ca t2 g2 o2 n2 c2).cs) : Small prog glS 52 args T (sm52nnsc args T zs x g ga off n cp ca t2 g2 o2 n2 c2).val (sm52nnsc args T zs x g ga off n cp ca t2 g2 o2 n2 c2).tab := by
  obtain ⟨hT, hv, h1, h2, h3, h4, h5, h6, h7, _⟩ := h
  simp only [Con.h] at hT hv h1 h2 h3 h4 h5 h6 h7
  injection hv with hv
  subst hT hv
  have hX : (xkLaw (repLaw x) (subLaw zs off n)).length = 64 := by rw [xk_len]; rfl
  have hB : BsLaw (repLaw x) := rep_bs ⟨h4.1, by have := h4.2; omega⟩
  have hXB : BsLaw (xkLaw (repLaw x) (subLaw zs off n)) := hB.xk (h3.sub off n)
  generalize hx : xkLaw (repLaw x) (subLaw zs off n) = X at hX hXB
  have w0 : List.take 64 X = X := List.take_of_length_le (by omega)
  have l2 : (subLaw t2 o2 n2).length = n2 := subLaw_len h5
  have b2 : BsLaw (X ++ subLaw t2 o2 n2) := hXB.append (h6.sub o2 n2)
  have m2 : (X ++ subLaw t2 o2 n2).length = 64 + n2 := by rw [List.length_append, l2, hX]
  have w2 : List.take (64 + n2) (X ++ subLaw t2 o2 n2) = X ++ subLaw t2 o2 n2 := List.take_of_length_le (Nat.le_of_eq m2)
  have hs : subLaw (X ++ subLaw t2 o2 n2) 0 (64 + n2) = X ++ subLaw t2 o2 n2 := sub_all m2
  have hcn := capLaw_none (64 + n2)
  refine small_ofG (R := R52nns zs x g ga off n cp ca t2 g2 o2 n2 c2) (keep := [0,1,2,4]) eP_ok hmS (f := 52) (fn := f52) (by kernel_rfl) (by kernel_rfl) orc52nns_ok rfl (R52nns_ok ?_) R52nns_val ?_
  · simp only [allP, Con.h, hx, addO_eq, dropO_eq, takeD, List.append_nil, Nat.add_zero, Nat.zero_add, w0, w2, m2, hX, b2, hB, hcn, h1, h2, h3, eq_self, true_and, and_true]
    omega
  · rw [R52nns_tab]
    simp only [hx, addO_eq, dropO_eq, takeD, List.append_nil, Nat.add_zero, w0, w2, hs]
    subst hx
    rfl
noncomputable def sm52nns : Summary := fun args T => sm52nnsc args T (xsAt T 0) (iOf (vAt args 1)) (gAt T 0) (gAt T 1) (offOf (vAt args 0)) (lenOf (vAt args 0)) (capOf (vAt args 0)) (capOf (vAt args 2)) (xsAt T 2) (gAt T 2) (offOf (vAt (aggAt T 1) 2)) (lenOf (vAt (aggAt T 1) 2)) (capOf (vAt (aggAt T 1) 2))
theorem sm52nns_ok : SmOk prog glS 52 sm52nns := fun args T h => sm52nnsc_ok h
/-! texts sns -/
noncomputable def sm52snsc (args : List AVal) (T : Tab) (zs : List Int) (x : Int) (g : Nat) (ga : Nat) (off : Nat) (n : Nat) (cp : Option Nat) (ca : Option Nat) (t2 : List Int) (g2 : Nat) (o2 : Nat) (n2 : Nat) (c2 : Option Nat) (t3 : List Int) (g3 : Nat) (o3 : Nat) (n3 : Nat) (c3 : Option Nat) : Res := ⟨[.tab T [some ⟨.ints .u8 zs, g, false, 5⟩, some ⟨.agg [.slice 1 2 g2 o2 n2 c2, .nilSlice, .slice 1 3 g3 o3 n3 c3], ga, false, 22⟩, some ⟨.ints .u8 t2, g2, false, 5⟩, some ⟨.ints .u8 t3, g3, false, 5⟩], .val (.tuple args) (.tuple [.slice 1 0 g off n cp, .int .u8 x, .slice 1 1 ga 0 3 ca]), .leN (off + n) zs.length, .leN n 64, .p (BsLaw zs), .rng 0 x 255, .leN (o2 + n2) t2.length, .p (BsLaw t2), .leN (o3 + n3) t3.length, .p (BsLaw t3), .leN (64 + n2 + n3) 140737488355000], .slice 1 4 31 0 32 none, [some ⟨.ints .u8 zs, g, false, 5⟩, some ⟨.agg [.slice 1 2 g2 o2 n2 c2, .nilSlice, .slice 1 3 g3 o3 n3 c3], ga, false, 22⟩, some ⟨.ints .u8 t2, g2, false, 5⟩, some ⟨.ints .u8 t3, g3, false, 5⟩, some ⟨.ints .u8 (sum32Law (xkLaw (repLaw x) (subLaw zs off n) ++ subLaw t2 o2 n2 ++ subLaw t3 o3 n3)), 31, true, 5⟩]⟩
theorem sm52snsc_ok {args : List AVal} {T : Tab} {zs : List Int} {x : Int} {g : Nat} {ga : Nat} {off : Nat} {n : Nat} {cp : Option Nat} {ca : Option Nat} {t2 : List Int} {g2 : Nat} {o2 : Nat} {n2 : Nat} {c2 : Option Nat} {t3 : List Int} {g3 : Nat} {o3 : Nat} {n3 : Nat} {c3 : Option Nat} (h : allP (sm52snsc args T zs x g ga off n cp ca t2 g2 o2 n2 c2 t3 g3 o3 n3 c3).cs) : Small prog glS 52 args T (sm52snsc args T zs x g ga off n cp ca t2 g2 o2 n2 c2 t3 g3 o3 n3 c3).val (sm52snsc args T zs x g ga off n cp ca t2 g2 o2 n2 c2 t3 g3 o3 n3 c3).tab := by
  obtain ⟨hT, hv, h1, h2, h3, h4, h5, h6, h7, h8, h9, _⟩ := h
  simp only [Con.h] at hT hv h1 h2 h3 h4 h5 h6 h7 h8 h9
  injection hv with hv
  subst hT hv
  have hX : (xkLaw (repLaw x) (subLaw zs off n)).length = 64 := by rw [xk_len]; rfl
  have hB : BsLaw (repLaw x) := rep_bs ⟨h4.1, by have := h4.2; omega⟩
  have hXB : BsLaw (xkLaw (repLaw x) (subLaw zs off n)) := hB.xk (h3.sub off n)
  generalize hx : xkLaw (repLaw x) (subLaw zs off n) = X at hX hXB
  have w0 : List.take 64 X = X := List.take_of_length_le (by omega)
  have l2 : (subLaw t2 o2 n2).length = n2 := subLaw_len h5
  have b2 : BsLaw (X ++ subLaw t2 o2 n2) := hXB.append (h6.sub o2 n2)
  have m2 : (X ++ subLaw t2 o2 n2).length = 64 + n2 := by rw [List.length_append, l2, hX]
  have w2 : List.take (64 + n2) (X ++ subLaw t2 o2 n2) = X ++ subLaw t2 o2 n2 := List.take_of_length_le (Nat.le_of_eq m2)
  have l3 : (subLaw t3 o3 n3).length = n3 := subLaw_len h7
  have b3 : BsLaw (X ++ subLaw t2 o2 n2 ++ subLaw t3 o3 n3) := b2.append (h8.sub o3 n3)
  have m3 : (X ++ subLaw t2 o2 n2 ++ subLaw t3 o3 n3).length = 64 + n2 + n3 := by rw [List.length_append, l3, m2]
  have w3 : List.take (64 + n2 + n3) (X ++ subLaw t2 o2 n2 ++ subLaw t3 o3 n3) = X ++ subLaw t2 o2 n2 ++ subLaw t3 o3 n3 := List.take_of_length_le (Nat.le_of_eq m3)
  have hs : subLaw (X ++ subLaw t2 o2 n2 ++ subLaw t3 o3 n3) 0 (64 + n2 + n3) = X ++ subLaw t2 o2 n2 ++ subLaw t3 o3 n3 := sub_all m3
  have hcn := capLaw_none (64 + n2 + n3)
  refine small_ofG (R := R52sns zs x g ga off n cp ca t2 t3 g2 o2 n2 g3 o3 n3 c2 c3) (keep := [0,1,2,3,5]) eP_ok hmS (f := 52) (fn := f52) (by kernel_rfl) (by kernel_rfl) orc52sns_ok rfl (R52sns_ok ?_) R52sns_val ?_
  · simp only [allP, Con.h, hx, addO_eq, dropO_eq, takeD, List.append_nil, Nat.add_zero, Nat.zero_add, w0, w2, w3, m2, m3, hX, b3, hB, hcn, h1, h2, h3, eq_self, true_and, and_true]
    omega
  · rw [R52sns_tab]
    simp only [hx, addO_eq, dropO_eq, takeD, List.append_nil, Nat.add_zero, w0, w2, w3, hs]
    subst hx
    rfl
noncomputable def sm52sns : Summary := fun args T => sm52snsc args T (xsAt T 0) (iOf (vAt args 1)) (gAt T 0) (gAt T 1) (offOf (vAt args 0)) (lenOf (vAt args 0)) (capOf (vAt args 0)) (capOf (vAt args 2)) (xsAt T 2) (gAt T 2) (offOf (vAt (aggAt T 1) 0)) (lenOf (vAt (aggAt T 1) 0)) (capOf (vAt (aggAt T 1) 0)) (xsAt T 3) (gAt T 3) (offOf (vAt (aggAt T 1) 2)) (lenOf (vAt (aggAt T 1) 2)) (capOf (vAt (aggAt T 1) 2))
theorem sm52sns_ok : SmOk prog glS 52 sm52sns := fun args T h => sm52snsc_ok h
def nilB : AVal → Bool
  | .nilSlice => true
  | _ => false
def nilsOf : List AVal → List Bool
  | [] => []
  | v :: r => nilB v :: nilsOf r
noncomputable def sm52 : Summary := fun args T => match nilsOf (aggAt T 1) with
  | [false] => sm52s args T
  | [true, false, false] => sm52nss args T
  | [false, false, false] => sm52sss args T
  | [true, true, false] => sm52nns args T
  | [false, true, false] => sm52sns args T
  | _ => fail
theorem sm52_ok : SmOk prog glS 52 sm52 := by
  intro args T h
  unfold sm52 at h ⊢
  split at h
  · exact sm52s_ok args T h
  · exact sm52nss_ok args T h
  · exact sm52sss_ok args T h
  · exact sm52nns_ok args T h
  · exact sm52sns_ok args T h
  · exact absurd h nofail
noncomputable def S52 : Summary := callR sm52 []
theorem S52_ok : SumOk prog glS 52 S52 := callR_ok sm52_ok []
noncomputable def eH : Env := eS0 [(13, S13), (52, S52)]
theorem eH_ok : EnvOk eH := envOf_ok tysS_ok (SumsOk.cons (fn := f13) S13_ok (by kernel_rfl) (by kernel_rfl) (by kernel_rfl) (SumsOk.cons (fn := f52) S52_ok (by kernel_rfl) (by kernel_rfl) (by kernel_rfl) trivial))
noncomputable def R40sa (zs : List Int) (g ga off n : Nat) (cp ca : Option Nat) (t2 : List Int) (g2 o2 n2 : Nat) (c2 : Option Nat) : Res := resG 3 [0, 1, 2, 6] (runF eH f40 [] 400 [.slice 1 0 g off n cp, .slice 1 1 ga 0 1 ca] [some ⟨.ints .u8 zs, g, false, 5⟩, some ⟨.agg [.slice 1 2 g2 o2 n2 c2], ga, false, 22⟩, some ⟨.ints .u8 t2, g2, false, 5⟩] [some true])
theorem R40sa_ok {zs : List Int} {g ga off n : Nat} {cp ca : Option Nat} {t2 : List Int} {g2 o2 n2 : Nat} {c2 : Option Nat} (h : allP [.eqN g g, .p (decide (64 < (↑n : Int)) = true), .eqN g g, .leN (off + n) zs.length, .leN n 140737488355000, .p (BsLaw zs), .p (capLaw n cp), .eqN ga ga, .eqN g2 g2, .p (BsLaw (sum32Law (subLaw zs off n))), .leN (o2 + n2) t2.length, .p (BsLaw t2), .leN (64 + n2)
 140737488355000, .p (BsLaw (sum32Law (subLaw zs off n))), .p (BsLaw (sum32Law (xkLaw (repLaw (OfNat.ofNat 54)) (subLaw (sum32Law (subLaw zs off n)) 0 32) ++ subLaw t2 o2 n2)))]) : OkR (R40sa zs g ga off n cp ca t2 g2 o2 n2 c2) := OkR.dem (fl := bitsF 36 48987554304) (by kernel_rfl) (by kernel_rfl) (by kernel_rfl) h
theorem R40sa_val {zs : List Int} {g ga off n : Nat} {cp ca : Option Nat} {t2 : List Int} {g2 o2 n2 : Nat} {c2 : Option Nat} : (R40sa zs g ga off n cp ca t2 g2 o2 n2 c2).val = .slice 1 3 31 0 32 none := by kernel_rfl
theorem R40sa_tab {zs : List Int} {g ga off n : Nat} {cp ca : Option Nat} {t2 : List Int} {g2 o2 n2 : Nat} {c2 : Option Nat} : (R40sa zs g ga off n cp ca t2 g2 o2 n2 c2).tab = [some ⟨.ints .u8 zs, g, false, 5⟩, some ⟨.agg [.slice 1 2 g2 o2 n2 c2], ga, false, 22⟩, some ⟨.ints .u8 t2, g2, false, 5⟩, some ⟨.ints .u8 (sum32Law (xkLaw (repLaw (OfNat.ofNat 92)) (subLaw (sum32Law (subLaw zs off n)) 0 32)
 ++ subLaw (sum32Law (xkLaw (repLaw (OfNat.ofNat 54)) (subLaw (sum32Law (subLaw zs off n)) 0 32) ++ subLaw t2 o2 n2)) 0 32)), 31, true, 5⟩] := by kernel_rfl
noncomputable def R40sb (zs : List Int) (g ga off n : Nat) (cp ca : Option Nat) (t2 : List Int) (g2 o2 n2 : Nat) (c2 : Option Nat) : Res := resG 3 [0, 1, 2, 5] (runF eH f40 [] 400 [.slice 1 0 g off n cp, .slice 1 1 ga 0 1 ca] [some ⟨.ints .u8 zs, g, false, 5⟩, some ⟨.agg [.slice 1 2 g2 o2 n2 c2], ga, false, 22⟩, some ⟨.ints .u8 t2, g2, false, 5⟩] [some false])
theorem R40sb_ok {zs : List Int} {g ga off n : Nat} {cp ca : Option Nat} {t2 : List Int} {g2 o2 n2 : Nat} {c2 : Option Nat} (h : allP [.eqN g g, .p (decide (64 < (↑n : Int)) = false), .eqN g g, .eqN ga ga, .eqN g2 g2, .leN (off + n) zs.length, .leN n 64, .p (BsLaw zs), .leN (o2 + n2) t2.length, .p (BsLaw t2), .leN (64 + n2) 140737488355000, .eqN g g, .leN (off + n) zs.length, .leN n 64, .p (BsLaw
 zs), .p (BsLaw (sum32Law (xkLaw (repLaw (OfNat.ofNat 54)) (subLaw zs off n) ++ subLaw t2 o2 n2)))]) : OkR (R40sb zs g ga off n cp ca t2 g2 o2 n2 c2) := OkR.dem (fl := bitsF 29 370000896) (by kernel_rfl) (by kernel_rfl) (by kernel_rfl) h
theorem R40sb_val {zs : List Int} {g ga off n : Nat} {cp ca : Option Nat} {t2 : List Int} {g2 o2 n2 : Nat} {c2 : Option Nat} : (R40sb zs g ga off n cp ca t2 g2 o2 n2 c2).val = .slice 1 3 31 0 32 none := by kernel_rfl
theorem R40sb_tab {zs : List Int} {g ga off n : Nat} {cp ca : Option Nat} {t2 : List Int} {g2 o2 n2 : Nat} {c2 : Option Nat} : (R40sb zs g ga off n cp ca t2 g2 o2 n2 c2).tab = [some ⟨.ints .u8 zs, g, false, 5⟩, some ⟨.agg [.slice 1 2 g2 o2 n2 c2], ga, false, 22⟩, some ⟨.ints .u8 t2, g2, false, 5⟩, some ⟨.ints .u8 (sum32Law (xkLaw (repLaw (OfNat.ofNat 92)) (subLaw zs off n) ++ subLaw (sum32Law
 (xkLaw (repLaw (OfNat.ofNat 54)) (subLaw zs off n) ++ subLaw t2 o2 n2)) 0 32)), 31, true, 5⟩] := by kernel_rfl
noncomputable def R40nssa (zs : List Int) (g ga off n : Nat) (cp ca : Option Nat) (t2 t3 : List Int) (g2 o2 n2 g3 o3 n3 : Nat) (c2 c3 : Option Nat) : Res := resG 4 [0, 1, 2, 3, 7] (runF eH f40 [] 400 [.slice 1 0 g off n cp, .slice 1 1 ga 0 3 ca] [some ⟨.ints .u8 zs, g, false, 5⟩, some ⟨.agg [.nilSlice, .slice 1 2 g2 o2 n2 c2, .slice 1 3 g3 o3 n3 c3], ga, false, 22⟩, some ⟨.ints .u8 t2, g2, false, 5⟩, some ⟨.ints .u8 t3, g3, false, 5⟩] [some true])
theorem R40nssa_ok {zs : List Int} {g ga off n : Nat} {cp ca : Option Nat} {t2 t3 : List Int} {g2 o2 n2 g3 o3 n3 : Nat} {c2 c3 : Option Nat} (h : allP [.eqN g g, .p (decide (64 < (↑n : Int)) = true), .eqN g g, .leN (off + n) zs.length, .leN n 140737488355000, .p (BsLaw zs), .p (capLaw n cp), .eqN ga ga, .eqN g2 g2, .eqN g3 g3, .p (BsLaw (sum32Law (subLaw zs off n))), .leN (o2 + n2) t2.length, .p
 (BsLaw t2), .leN (o3 + n3) t3.length, .p (BsLaw t3), .leN (64 + n2 + n3) 140737488355000, .p (BsLaw (sum32Law (subLaw zs off n))), .p (BsLaw (sum32Law (xkLaw (repLaw (OfNat.ofNat 54)) (subLaw (sum32Law (subLaw zs off n)) 0 32) ++ subLaw t2 o2 n2 ++ subLaw t3 o3 n3)))]) : OkR (R40nssa zs g ga off n cp ca t2 t3 g2 o2 n2 g3 o3 n3 c2 c3) := OkR.dem (fl := bitsF 39 391899349504) (by kernel_rfl) (by
 kernel_rfl) (by kernel_rfl) h
theorem R40nssa_val {zs : List Int} {g ga off n : Nat} {cp ca : Option Nat} {t2 t3 : List Int} {g2 o2 n2 g3 o3 n3 : Nat} {c2 c3 : Option Nat} : (R40nssa zs g ga off n cp ca t2 t3 g2 o2 n2 g3 o3 n3 c2 c3).val = .slice 1 4 31 0 32 none := by kernel_rfl
theorem R40nssa_tab {zs : List Int} {g ga off n : Nat} {cp ca : Option Nat} {t2 t3 : List Int} {g2 o2 n2 g3 o3 n3 : Nat} {c2 c3 : Option Nat} : (R40nssa zs g ga off n cp ca t2 t3 g2 o2 n2 g3 o3 n3 c2 c3).tab = [some ⟨.ints .u8 zs, g, false, 5⟩, some ⟨.agg [.nilSlice, .slice 1 2 g2 o2 n2 c2, .slice 1 3 g3 o3 n3 c3], ga, false, 22⟩, some ⟨.ints .u8 t2, g2, false, 5⟩, some ⟨.ints .u8 t3, g3, false,
 5⟩, some ⟨.ints .u8 (sum32Law (xkLaw (repLaw (OfNat.ofNat 92)) (subLaw (sum32Law (subLaw zs off n)) 0 32) ++ subLaw (sum32Law (xkLaw (repLaw (OfNat.ofNat 54)) (subLaw (sum32Law (subLaw zs off n)) 0 32) ++ subLaw t2 o2 n2 ++ subLaw t3 o3 n3)) 0 32)), 31, true, 5⟩] := by kernel_rfl
noncomputable def R40nssb (zs : List Int) (g ga off n : Nat) (cp ca : Option Nat) (t2 t3 : List Int) (g2 o2 n2 g3 o3 n3 : Nat) (c2 c3 : Option Nat) : Res := resG 4 [0, 1, 2, 3, 6] (runF eH f40 [] 400 [.slice 1 0 g off n cp, .slice 1 1 ga 0 3 ca] [some ⟨.ints .u8 zs, g, false, 5⟩, some ⟨.agg [.nilSlice, .slice 1 2 g2 o2 n2 c2, .slice 1 3 g3 o3 n3 c3], ga, false, 22⟩, some ⟨.ints .u8 t2, g2, false, 5⟩, some ⟨.ints .u8 t3, g3, false, 5⟩] [some false])
theorem R40nssb_ok {zs : List Int} {g ga off n : Nat} {cp ca : Option Nat} {t2 t3 : List Int} {g2 o2 n2 g3 o3 n3 : Nat} {c2 c3 : Option Nat} (h : allP [.eqN g g, .p (decide (64 < (↑n : Int)) = false), .eqN g g, .eqN ga ga, .eqN g2 g2, .eqN g3 g3, .leN (off + n) zs.length, .leN n 64, .p (BsLaw zs), .leN (o2 + n2) t2.length, .p (BsLaw t2), .leN (o3 + n3) t3.length, .p (BsLaw t3), .leN (64 + n2 + n3)
 140737488355000, .eqN g g, .leN (off + n) zs.length, .leN n 64, .p (BsLaw zs), .p (BsLaw (sum32Law (xkLaw (repLaw (OfNat.ofNat 54)) (subLaw zs off n) ++ subLaw t2 o2 n2 ++ subLaw t3 o3 n3)))]) : OkR (R40nssb zs g ga off n cp ca t2 t3 g2 o2 n2 g3 o3 n3 c2 c3) := OkR.dem (fl := bitsF 32 2960001024) (by kernel_rfl) (by kernel_rfl) (by kernel_rfl) h
theorem R40nssb_val {zs : List Int} {g ga off n : Nat} {cp ca : Option Nat} {t2 t3 : List Int} {g2 o2 n2 g3 o3 n3 : Nat} {c2 c3 : Option Nat} : (R40nssb zs g ga off n cp ca t2 t3 g2 o2 n2 g3 o3 n3 c2 c3).val = .slice 1 4 31 0 32 none := by kernel_rfl
theorem R40nssb_tab {zs : List Int} {g ga off n : Nat} {cp ca : Option Nat} {t2 t3 : List Int} {g2 o2 n2 g3 o3 n3 : Nat} {c2 c3 : Option Nat} : (R40nssb zs g ga off n cp ca t2 t3 g2 o2 n2 g3 o3 n3 c2 c3).tab = [some ⟨.ints .u8 zs, g, false, 5⟩, some ⟨.agg [.nilSlice, .slice 1 2 g2 o2 n2 c2, .slice 1 3 g3 o3 n3 c3], ga, false, 22⟩, some ⟨.ints .u8 t2, g2, false, 5⟩, some ⟨.ints .u8 t3, g3, false,
 5⟩, some ⟨.ints .u8 (sum32Law (xkLaw (repLaw (OfNat.ofNat 92)) (subLaw zs off n) ++ subLaw (sum32Law (xkLaw (repLaw (OfNat.ofNat 54)) (subLaw zs off n) ++ subLaw t2 o2 n2 ++ subLaw t3 o3 n3)) 0 32)), 31, true, 5⟩] := by kernel_rfl
noncomputable def R40sssa (zs : List Int) (g ga off n : Nat) (cp ca : Option Nat) (t2 t3 t4 : List Int) (g2 o2 n2 g3 o3 n3 g4 o4 n4 : Nat) (c2 c3 c4 : Option Nat) : Res := resG 5 [0, 1, 2, 3, 4, 8] (runF eH f40 [] 400 [.slice 1 0 g off n cp, .slice 1 1 ga 0 3 ca] [some ⟨.ints .u8 zs, g, false, 5⟩, some ⟨.agg [.slice 1 2 g2 o2 n2 c2, .slice 1 3 g3 o3 n3 c3, .slice 1 4 g4 o4 n4 c4], ga, false, 22⟩, some ⟨.ints .u8 t2, g2, false, 5⟩, some ⟨.ints .u8 t3, g3, false, 5⟩, some ⟨.ints .u8 t4, g4, false, 5⟩] [some true])
theorem R40sssa_ok {zs : List Int} {g ga off n : Nat} {cp ca : Option Nat} {t2 t3 t4 : List Int} {g2 o2 n2 g3 o3 n3 g4 o4 n4 : Nat} {c2 c3 c4 : Option Nat} (h : allP [.eqN g g, .p (decide (64 < (↑n : Int)) = true), .eqN g g, .leN (off + n) zs.length, .leN n 140737488355000, .p (BsLaw zs), .p (capLaw n cp), .eqN ga ga, .eqN g2 g2, .eqN g3 g3, .eqN g4 g4, .p (BsLaw (sum32Law (subLaw zs off n))), .leN
 (o2 + n2) t2.length, .p (BsLaw t2), .leN (o3 + n3) t3.length, .p (BsLaw t3), .leN (o4 + n4) t4.length, .p (BsLaw t4), .leN (64 + n2 + n3 + n4) 140737488355000, .p (BsLaw (sum32Law (subLaw zs off n))), .p (BsLaw (sum32Law (xkLaw (repLaw (OfNat.ofNat 54)) (subLaw (sum32Law (subLaw zs off n)) 0 32) ++ subLaw t2 o2 n2 ++ subLaw t3 o3 n3 ++ subLaw t4 o4 n4)))]) : OkR (R40sssa zs g ga off n cp ca t2 t3
 t4 g2 o2 n2 g3 o3 n3 g4 o4 n4 c2 c3 c4) := OkR.dem (fl := bitsF 42 3135192629760) (by kernel_rfl) (by kernel_rfl) (by kernel_rfl) h
theorem R40sssa_val {zs : List Int} {g ga off n : Nat} {cp ca : Option Nat} {t2 t3 t4 : List Int} {g2 o2 n2 g3 o3 n3 g4 o4 n4 : Nat} {c2 c3 c4 : Option Nat} : (R40sssa zs g ga off n cp ca t2 t3 t4 g2 o2 n2 g3 o3 n3 g4 o4 n4 c2 c3 c4).val = .slice 1 5 31 0 32 none := by kernel_rfl
theorem R40sssa_tab {zs : List Int} {g ga off n : Nat} {cp ca : Option Nat} {t2 t3 t4 : List Int} {g2 o2 n2 g3 o3 n3 g4 o4 n4 : Nat} {c2 c3 c4 : Option Nat} : (R40sssa zs g ga off n cp ca t2 t3 t4 g2 o2 n2 g3 o3 n3 g4 o4 n4 c2 c3 c4).tab = [some ⟨.ints .u8 zs, g, false, 5⟩, some ⟨.agg [.slice 1 2 g2 o2 n2 c2, .slice 1 3 g3 o3 n3 c3, .slice 1 4 g4 o4 n4 c4], ga, false, 22⟩, some ⟨.ints .u8 t2, g2,
 false, 5⟩, some ⟨.ints .u8 t3, g3, false, 5⟩, some ⟨.ints .u8 t4, g4, false, 5⟩, some ⟨.ints .u8 (sum32Law (xkLaw (repLaw (OfNat.ofNat 92)) (subLaw (sum32Law (subLaw zs off n)) 0 32) ++ subLaw (sum32Law (xkLaw (repLaw (OfNat.ofNat 54)) (subLaw (sum32Law (subLaw zs off n)) 0 32) ++ subLaw t2 o2 n2 ++ subLaw t3 o3 n3 ++ subLaw t4 o4 n4)) 0 32)), 31, true, 5⟩] := by kernel_rfl
noncomputable def R40sssb (zs : List Int) (g ga off n : Nat) (cp ca : Option Nat) (t2 t3 t4 : List Int) (g2 o2 n2 g3 o3 n3 g4 o4 n4 : Nat) (c2 c3 c4 : Option Nat) : Res := resG 5 [0, 1, 2, 3, 4, 7] (runF eH f40 [] 400 [.slice 1 0 g off n cp, .slice 1 1 ga 0 3 ca] [some ⟨.ints .u8 zs, g, false, 5⟩, some ⟨.agg [.slice 1 2 g2 o2 n2 c2, .slice 1 3 g3 o3 n3 c3, .slice 1 4 g4 o4 n4 c4], ga, false, 22⟩, some ⟨.ints .u8 t2, g2, false, 5⟩, some ⟨.ints .u8 t3, g3, false, 5⟩, some ⟨.ints .u8 t4, g4, false, 5⟩] [some false])
theorem R40sssb_ok {zs : List Int} {g ga off n : Nat} {cp ca : Option Nat} {t2 t3 t4 : List Int} {g2 o2 n2 g3 o3 n3 g4 o4 n4 : Nat} {c2 c3 c4 : Option Nat} (h : allP [.eqN g g, .p (decide (64 < (↑n : Int)) = false), .eqN g g, .eqN ga ga, .eqN g2 g2, .eqN g3 g3, .eqN g4 g4, .leN (off + n) zs.length, .leN n 64, .p (BsLaw zs), .leN (o2 + n2) t2.length, .p (BsLaw t2), .leN (o3 + n3) t3.length, .p
 (BsLaw t3), .leN (o4 + n4) t4.length, .p (BsLaw t4), .leN (64 + n2 + n3 + n4) 140737488355000, .eqN g g, .leN (off + n) zs.length, .leN n 64, .p (BsLaw zs), .p (BsLaw (sum32Law (xkLaw (repLaw (OfNat.ofNat 54)) (subLaw zs off n) ++ subLaw t2 o2 n2 ++ subLaw t3 o3 n3 ++ subLaw t4 o4 n4)))]) : OkR (R40sssb zs g ga off n cp ca t2 t3 t4 g2 o2 n2 g3 o3 n3 g4 o4 n4 c2 c3 c4) := OkR.dem (fl := bitsF 35
 23679995904) (by kernel_rfl) (by kernel_rfl) (by kernel_rfl) h
theorem R40sssb_val {zs : List Int} {g ga off n : Nat} {cp ca : Option Nat} {t2 t3 t4 : List Int} {g2 o2 n2 g3 o3 n3 g4 o4 n4 : Nat} {c2 c3 c4 : Option Nat} : (R40sssb zs g ga off n cp ca t2 t3 t4 g2 o2 n2 g3 o3 n3 g4 o4 n4 c2 c3 c4).val = .slice 1 5 31 0 32 none := by kernel_rfl
theorem R40sssb_tab {zs : List Int} {g ga off n : Nat} {cp ca : Option Nat} {t2 t3 t4 : List Int} {g2 o2 n2 g3 o3 n3 g4 o4 n4 : Nat} {c2 c3 c4 : Option Nat} : (R40sssb zs g ga off n cp ca t2 t3 t4 g2 o2 n2 g3 o3 n3 g4 o4 n4 c2 c3 c4).tab = [some ⟨.ints .u8 zs, g, false, 5⟩, some ⟨.agg [.slice 1 2 g2 o2 n2 c2, .slice 1 3 g3 o3 n3 c3, .slice 1 4 g4 o4 n4 c4], ga, false, 22⟩, some ⟨.ints .u8 t2, g2,
 false, 5⟩, some ⟨.ints .u8 t3, g3, false, 5⟩, some ⟨.ints .u8 t4, g4, false, 5⟩, some ⟨.ints .u8 (sum32Law (xkLaw (repLaw (OfNat.ofNat 92)) (subLaw zs off n) ++ subLaw (sum32Law (xkLaw (repLaw (OfNat.ofNat 54)) (subLaw zs off n) ++ subLaw t2 o2 n2 ++ subLaw t3 o3 n3 ++ subLaw t4 o4 n4)) 0 32)), 31, true, 5⟩] := by kernel_rfl
noncomputable def R40nnsa (zs : List Int) (g ga off n : Nat) (cp ca : Option Nat) (t2 : List Int) (g2 o2 n2 : Nat) (c2 : Option Nat) : Res := resG 3 [0, 1, 2, 6] (runF eH f40 [] 400 [.slice 1 0 g off n cp, .slice 1 1 ga 0 3 ca] [some ⟨.ints .u8 zs, g, false, 5⟩, some ⟨.agg [.nilSlice, .nilSlice, .slice 1 2 g2 o2 n2 c2], ga, false, 22⟩, some ⟨.ints .u8 t2, g2, false, 5⟩] [some true])
theorem R40nnsa_ok {zs : List Int} {g ga off n : Nat} {cp ca : Option Nat} {t2 : List Int} {g2 o2 n2 : Nat} {c2 : Option Nat} (h : allP [.eqN g g, .p (decide (64 < (↑n : Int)) = true), .eqN g g, .leN (off + n) zs.length, .leN n 140737488355000, .p (BsLaw zs), .p (capLaw n cp), .eqN ga ga, .eqN g2 g2, .p (BsLaw (sum32Law (subLaw zs off n))), .leN (o2 + n2) t2.length, .p (BsLaw t2), .leN (64 + n2)
 140737488355000, .p (BsLaw (sum32Law (subLaw zs off n))), .p (BsLaw (sum32Law (xkLaw (repLaw (OfNat.ofNat 54)) (subLaw (sum32Law (subLaw zs off n)) 0 32) ++ subLaw t2 o2 n2)))]) : OkR (R40nnsa zs g ga off n cp ca t2 g2 o2 n2 c2) := OkR.dem (fl := bitsF 36 48987554304) (by kernel_rfl) (by kernel_rfl) (by kernel_rfl) h
theorem R40nnsa_val {zs : List Int} {g ga off n : Nat} {cp ca : Option Nat} {t2 : List Int} {g2 o2 n2 : Nat} {c2 : Option Nat} : (R40nnsa zs g ga off n cp ca t2 g2 o2 n2 c2).val = .slice 1 3 31 0 32 none := by kernel_rfl
theorem R40nnsa_tab {zs : List Int} {g ga off n : Nat} {cp ca : Option Nat} {t2 : List Int} {g2 o2 n2 : Nat} {c2 : Option Nat} : (R40nnsa zs g ga off n cp ca t2 g2 o2 n2 c2).tab = [some ⟨.ints .u8 zs, g, false, 5⟩, some ⟨.agg [.nilSlice, .nilSlice, .slice 1 2 g2 o2 n2 c2], ga, false, 22⟩, some ⟨.ints .u8 t2, g2, false, 5⟩, some ⟨.ints .u8 (sum32Law (xkLaw (repLaw (OfNat.ofNat 92)) (subLaw (sum32Law
 (subLaw zs off n)) 0 32) ++ subLaw (sum32Law (xkLaw (repLaw (OfNat.ofNat 54)) (subLaw (sum32Law (subLaw zs off n)) 0 32) ++ subLaw t2 o2 n2)) 0 32)), 31, true, 5⟩] := by kernel_rfl
noncomputable def R40nnsb (zs : List Int) (g ga off n : Nat) (cp ca : Option Nat) (t2 : List Int) (g2 o2 n2 : Nat) (c2 : Option Nat) : Res := resG 3 [0, 1, 2, 5] (runF eH f40 [] 400 [.slice 1 0 g off n cp, .slice 1 1 ga 0 3 ca] [some ⟨.ints .u8 zs, g, false, 5⟩, some ⟨.agg [.nilSlice, .nilSlice, .slice 1 2 g2 o2 n2 c2], ga, false, 22⟩, some ⟨.ints .u8 t2, g2, false, 5⟩] [some false])
theorem R40nnsb_ok {zs : List Int} {g ga off n : Nat} {cp ca : Option Nat} {t2 : List Int} {g2 o2 n2 : Nat} {c2 : Option Nat} (h : allP [.eqN g g, .p (decide (64 < (↑n : Int)) = false), .eqN g g, .eqN ga ga, .eqN g2 g2, .leN (off + n) zs.length, .leN n 64, .p (BsLaw zs), .leN (o2 + n2) t2.length, .p (BsLaw t2), .leN (64 + n2) 140737488355000, .eqN g g, .leN (off + n) zs.length, .leN n 64, .p (BsLaw
 zs), .p (BsLaw (sum32Law (xkLaw (repLaw (OfNat.ofNat 54)) (subLaw zs off n) ++ subLaw t2 o2 n2)))]) : OkR (R40nnsb zs g ga off n cp ca t2 g2 o2 n2 c2) := OkR.dem (fl := bitsF 29 370000896) (by kernel_rfl) (by kernel_rfl) (by kernel_rfl) h
theorem R40nnsb_val {zs : List Int} {g ga off n : Nat} {cp ca : Option Nat} {t2 : List Int} {g2 o2 n2 : Nat} {c2 : Option Nat} : (R40nnsb zs g ga off n cp ca t2 g2 o2 n2 c2).val = .slice 1 3 31 0 32 none := by kernel_rfl
theorem R40nnsb_tab {zs : List Int} {g ga off n : Nat} {cp ca : Option Nat} {t2 : List Int} {g2 o2 n2 : Nat} {c2 : Option Nat} : (R40nnsb zs g ga off n cp ca t2 g2 o2 n2 c2).tab = [some ⟨.ints .u8 zs, g, false, 5⟩, some ⟨.agg [.nilSlice, .nilSlice, .slice 1 2 g2 o2 n2 c2], ga, false, 22⟩, some ⟨.ints .u8 t2, g2, false, 5⟩, some ⟨.ints .u8 (sum32Law (xkLaw (repLaw (OfNat.ofNat 92)) (subLaw zs off n)
 ++ subLaw (sum32Law (xkLaw (repLaw (OfNat.ofNat 54)) (subLaw zs off n) ++ subLaw t2 o2 n2)) 0 32)), 31, true, 5⟩] := by kernel_rfl
noncomputable def R40snsa (zs : List Int) (g ga off n : Nat) (cp ca : Option Nat) (t2 t3 : List Int) (g2 o2 n2 g3 o3 n3 : Nat) (c2 c3 : Option Nat) : Res := resG 4 [0, 1, 2, 3, 7] (runF eH f40 [] 400 [.slice 1 0 g off n cp, .slice 1 1 ga 0 3 ca] [some ⟨.ints .u8 zs, g, false, 5⟩, some ⟨.agg [.slice 1 2 g2 o2 n2 c2, .nilSlice, .slice 1 3 g3 o3 n3 c3], ga, false, 22⟩, some ⟨.ints .u8 t2, g2, false, 5⟩, some ⟨.ints .u8 t3, g3, false, 5⟩] [some true])
theorem R40snsa_ok {zs : List Int} {g ga off n : Nat} {cp ca : Option Nat} {t2 t3 : List Int} {g2 o2 n2 g3 o3 n3 : Nat} {c2 c3 : Option Nat} (h : allP [.eqN g g, .p (decide (64 < (↑n : Int)) = true), .eqN g g, .leN (off + n) zs.length, .leN n 140737488355000, .p (BsLaw zs), .p (capLaw n cp), .eqN ga ga, .eqN g2 g2, .eqN g3 g3, .p (BsLaw (sum32Law (subLaw zs off n))), .leN (o2 + n2) t2.length, .p
 (BsLaw t2), .leN (o3 + n3) t3.length, .p (BsLaw t3), .leN (64 + n2 + n3) 140737488355000, .p (BsLaw (sum32Law (subLaw zs off n))), .p (BsLaw (sum32Law (xkLaw (repLaw (OfNat.ofNat 54)) (subLaw (sum32Law (subLaw zs off n)) 0 32) ++ subLaw t2 o2 n2 ++ subLaw t3 o3 n3)))]) : OkR (R40snsa zs g ga off n cp ca t2 t3 g2 o2 n2 g3 o3 n3 c2 c3) := OkR.dem (fl := bitsF 39 391899349504) (by kernel_rfl) (by
 kernel_rfl) (by kernel_rfl) h
theorem R40snsa_val {zs : List Int} {g ga off n : Nat} {cp ca : Option Nat} {t2 t3 : List Int} {g2 o2 n2 g3 o3 n3 : Nat} {c2 c3 : Option Nat} : (R40snsa zs g ga off n cp ca t2 t3 g2 o2 n2 g3 o3 n3 c2 c3).val = .slice 1 4 31 0 32 none := by kernel_rfl
theorem R40snsa_tab {zs : List Int} {g ga off n : Nat} {cp ca : Option Nat} {t2 t3 : List Int} {g2 o2 n2 g3 o3 n3 : Nat} {c2 c3 : Option Nat} : (R40snsa zs g ga off n cp ca t2 t3 g2 o2 n2 g3 o3 n3 c2 c3).tab = [some ⟨.ints .u8 zs, g, false, 5⟩, some ⟨.agg [.slice 1 2 g2 o2 n2 c2, .nilSlice, .slice 1 3 g3 o3 n3 c3], ga, false, 22⟩, some ⟨.ints .u8 t2, g2, false, 5⟩, some ⟨.ints .u8 t3, g3, false,
 5⟩, some ⟨.ints .u8 (sum32Law (xkLaw (repLaw (OfNat.ofNat 92)) (subLaw (sum32Law (subLaw zs off n)) 0 32) ++ subLaw (sum32Law (xkLaw (repLaw (OfNat.ofNat 54)) (subLaw (sum32Law (subLaw zs off n)) 0 32) ++ subLaw t2 o2 n2 ++ subLaw t3 o3 n3)) 0 32)), 31, true, 5⟩] := by kernel_rfl
noncomputable def R40snsb (zs : List Int) (g ga off n : Nat) (cp ca : Option Nat) (t2 t3 : List Int) (g2 o2 n2 g3 o3 n3 : Nat) (c2 c3 : Option Nat) : Res := resG 4 [0, 1, 2, 3, 6] (runF eH f40 [] 400 [.slice 1 0 g off n cp, .slice 1 1 ga 0 3 ca] [some ⟨.ints .u8 zs, g, false, 5⟩, some ⟨.agg [.slice 1 2 g2 o2 n2 c2, .nilSlice, .slice 1 3 g3 o3 n3 c3], ga, false, 22⟩, some ⟨.ints .u8 t2, g2, false, 5⟩, some ⟨.ints .u8 t3, g3, false, 5⟩] [some false])
theorem R40snsb_ok {zs : List Int} {g ga off n : Nat} {cp ca : Option Nat} {t2 t3 : List Int} {g2 o2 n2 g3 o3 n3 : Nat} {c2 c3 : Option Nat} (h : allP [.eqN g g, .p (decide (64 < (↑n : Int)) = false), .eqN g g, .eqN ga ga, .eqN g2 g2, .eqN g3 g3, .leN (off + n) zs.length, .leN n 64, .p (BsLaw zs), .leN (o2 + n2) t2.length, .p (BsLaw t2), .leN (o3 + n3) t3.length, .p (BsLaw t3), .leN (64 + n2 + n3)
 140737488355000, .eqN g g, .leN (off + n) zs.length, .leN n 64, .p (BsLaw zs), .p (BsLaw (sum32Law (xkLaw (repLaw (OfNat.ofNat 54)) (subLaw zs off n) ++ subLaw t2 o2 n2 ++ subLaw t3 o3 n3)))]) : OkR (R40snsb zs g ga off n cp ca t2 t3 g2 o2 n2 g3 o3 n3 c2 c3) := OkR.dem (fl := bitsF 32 2960001024) (by kernel_rfl) (by kernel_rfl) (by kernel_rfl) h
theorem R40snsb_val {zs : List Int} {g ga off n : Nat} {cp ca : Option Nat} {t2 t3 : List Int} {g2 o2 n2 g3 o3 n3 : Nat} {c2 c3 : Option Nat} : (R40snsb zs g ga off n cp ca t2 t3 g2 o2 n2 g3 o3 n3 c2 c3).val = .slice 1 4 31 0 32 none := by kernel_rfl
theorem R40snsb_tab {zs : List Int} {g ga off n : Nat} {cp ca : Option Nat} {t2 t3 : List Int} {g2 o2 n2 g3 o3 n3 : Nat} {c2 c3 : Option Nat} : (R40snsb zs g ga off n cp ca t2 t3 g2 o2 n2 g3 o3 n3 c2 c3).tab = [some ⟨.ints .u8 zs, g, false, 5⟩, some ⟨.agg [.slice 1 2 g2 o2 n2 c2, .nilSlice, .slice 1 3 g3 o3 n3 c3], ga, false, 22⟩, some ⟨.ints .u8 t2, g2, false, 5⟩, some ⟨.ints .u8 t3, g3, false,
 5⟩, some ⟨.ints .u8 (sum32Law (xkLaw (repLaw (OfNat.ofNat 92)) (subLaw zs off n) ++ subLaw (sum32Law (xkLaw (repLaw (OfNat.ofNat 54)) (subLaw zs off n) ++ subLaw t2 o2 n2 ++ subLaw t3 o3 n3)) 0 32)), 31, true, 5⟩] := by kernel_rfl
end Go.Abs
