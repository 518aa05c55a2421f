/- What functions of the given program come to, by the abstract machine: one text of a proof. -/
import Derived.Test.YtkbfjfookfmobaaDoorDC8
import Derived.Test.YtkbfjfookfmobaaDoorAbs2
set_option linter.unusedVariables false
set_option linter.unusedSimpArgs false
set_option maxRecDepth 8000
set_option maxHeartbeats 4000000
namespace Go.Abs
open Go.Proofs Go.Proofs.Tryd
/-! ### the document's block -/
def mixLaw (f g : Nat → Int) (i : Nat) : List Int := (List.range 8).map fun j => if j < i then f j else g j
theorem mix_len (f g : Nat → Int) (i : Nat) : (mixLaw f g i).length = 8 := by simp [mixLaw]
theorem mix_set (f g : Nat → Int) {i : Nat} (hi : i < 8) : (mixLaw f g i).set i (f i) = mixLaw f g (i + 1) := by
  match i, hi with
  | 0, _ => rfl
  | 1, _ => rfl
  | 2, _ => rfl
  | 3, _ => rfl
  | 4, _ => rfl
  | 5, _ => rfl
  | 6, _ => rfl
  | 7, _ => rfl
theorem mix_get (f g : Nat → Int) {i : Nat} (hi : i < 8) : (mixLaw f g i).getD i 0 = g i := by
  match i, hi with
  | 0, _ => rfl
  | 1, _ => rfl
  | 2, _ => rfl
  | 3, _ => rfl
  | 4, _ => rfl
  | 5, _ => rfl
  | 6, _ => rfl
  | 7, _ => rfl
theorem mix_zero (f : Nat → Int) {l : List Int} (h : l.length = 8) : mixLaw f (fun j => l.getD j 0) 0 = l := by
  obtain ⟨a0, a1, a2, a3, a4, a5, a6, a7, rfl⟩ := list8 h
  rfl
/-! width 32 -/
def addx32Law (ss xs : List Int) : List Int := mixLaw (fun j => (ss.getD j 0 + xs.getD j 0) % 4294967296) (fun j => xs.getD j 0) 8
def rndx32Law (ws xs : List Int) : List Int := rndsLaw 32 4294967296 [2, 13, 22] [6, 11, 25] ws xs 64
def TX32 (ss kk zs ws xs : List Int) (g4 g5 g6 gw gx : Nat) (o4 o5 o6 ow : Bool) : Tab := [some ⟨.ints .i64 [7, 18, 3], 0, false, 3⟩, some ⟨.ints .i64 [17, 19, 10], 0, false, 3⟩, some ⟨.ints .i64 [2, 13, 22], 0, false, 3⟩, some ⟨.ints .i64 [6, 11, 25], 0, false, 3⟩, some ⟨.ints .u64 ss, g4, o4, 56⟩, some ⟨.ints .u64 kk, g5, o5, 56⟩, some ⟨.ints .u8 zs, g6, o6, 5⟩, some ⟨.agg [.int .i64 32, .int .i64 64, .int .i64 64, .slice 1 0 0 0 3 (some 3), .slice 1 1 0 0 3 (some 3), .slice 1 2 0 0 3 (some 3), .slice 1 3 0 0 3 (some 3)], 0, true, 54⟩, some ⟨.ints .u64 ws, gw, ow, 56⟩, some ⟨.ints .u64 xs, gx, true, 56⟩]
noncomputable def gG49_32c (vs : List AVal) (T : Tab) (ss : List Int) (kk : List Int) (zs : List Int) (ws : List Int) (xs : List Int) (g4 : Nat) (g5 : Nat) (g6 : Nat) (gw : Nat) (gx : Nat) (o4 : Bool) (o5 : Bool) (o6 : Bool) (ow : Bool) (cp : Option Nat) (ck : Option Nat) (cx : Option Nat) : Out := ⟨[.tab T (TX32 ss kk zs ws xs g4 g5 g6 gw gx o4 o5 o6 ow), .val (.tuple vs) (.tuple [.slice 1 4 g4 0 8 cp, .slice 1 5 g5 0 80 ck, .var 7 0, .slice 1 8 gw 0 64 none, .slice 1 9 gx 0 8 cx, .int .i64 0]), .p (isCubesLaw kk), .eqN ws.length 64, .p (WdsLaw 32 ws), .eqN xs.length 8, .p (WdsLaw 32 xs)], .normal, [(1, .slice 1 4 g4 0 8 cp), (4, .var 7 0), (10, .slice 1 9 0 0 8 (some 8))], TX32 ss kk zs ws (rndx32Law ws xs) g4 g5 g6 gw 0 o4 o5 o6 ow, []⟩
theorem gG49_32c_ok {vs : List AVal} {T : Tab} {ss : List Int} {kk : List Int} {zs : List Int} {ws : List Int} {xs : List Int} {g4 : Nat} {g5 : Nat} {g6 : Nat} {gw : Nat} {gx : Nat} {o4 : Bool} {o5 : Bool} {o6 : Bool} {ow : Bool} {cp : Option Nat} {ck : Option Nat} {cx : Option Nat} (h : Ok (gG49_32c vs T ss kk zs ws xs g4 g5 g6 gw gx o4 o5 o6 ow cp ck cx)) : To eT32 157 9 (.block 0 (.loop (roundOf 0 f49))) (zipF [1,2,4,9,10,11] vs) T (gG49_32c vs T ss kk zs ws xs g4 g5 g6 gw gx o4 o5 o6 ow cp ck cx).ex (gG49_32c vs T ss kk zs ws xs g4 g5 g6 gw gx o4 o5 o6 ow cp ck cx).fm (gG49_32c vs T ss kk zs ws xs g4 g5 g6 gw gx o4 o5 o6 ow cp ck cx).tab := by
  obtain ⟨hT, hv, h1, h2, h3, h4, h5, _⟩ := h.h
  simp only [Con.h] at hT hv h1 h2 h3 h4 h5
  injection hv with hv
  subst hT hv
  exact loopG49_32 h1 h2 h3 h4 h5
noncomputable def gG49_32 : List AVal → Tab → Out := fun vs T => gG49_32c vs T (xsAt T 4) (xsAt T 5) (xsAt T 6) (xsAt T 8) (xsAt T 9) (gAt T 4) (gAt T 5) (gAt T 6) (gAt T 8) (gAt T 9) (owAt T 4) (owAt T 5) (owAt T 6) (owAt T 8) (capOf (vAt vs 0)) (capOf (vAt vs 1)) (capOf (vAt vs 4))
theorem gG49_32_ok : BlkOk eT32 f49 0 (.loop (roundOf 0 f49)) (blkS2 9 10 [1,2,4,9,10,11] gG49_32) := blkS2_ok fun vs T h => gG49_32c_ok h
def FI49_32 (g4 gx : Nat) (cp cx : Option Nat) (i : Nat) : Fm := [(1, .slice 1 4 g4 0 8 cp), (4, .var 7 0), (10, .slice 1 9 gx 0 8 cx), (15, .int .i64 i)]
theorem loopI49_32 {ss kk zs ws : List Int} {g4 g5 g6 gw : Nat} {cp : Option Nat} {o4 o5 o6 ow : Bool} {gx : Nat} {cx : Option Nat} {xs : List Int} (hsl : ss.length = 8) (hxl : xs.length = 8) :
    To eT32 157 10 (.block 2 (.loop (roundOf 2 f49))) (FI49_32 g4 gx cp cx 0) (TX49_32 ss kk zs ws g4 g5 g6 gw o4 o5 o6 ow gx xs) .normal [(10, .slice 1 9 gx 0 8 cx)] (TX49_32 ss kk zs ws g4 g5 g6 gw o4 o5 o6 ow gx (mixLaw (fun j => (ss.getD j 0 + xs.getD j 0) % 4294967296) (fun j => xs.getD j 0) 8)) := by
  refine To.start (T0 := TX49_32 ss kk zs ws g4 g5 g6 gw o4 o5 o6 ow gx (mixLaw (fun j => (ss.getD j 0 + xs.getD j 0) % 4294967296) (fun j => xs.getD j 0) 0)) (by rw [mix_zero _ hxl]) ?_
  refine To.rounds (FI49_32 g4 gx cp cx) (fun i => TX49_32 ss kk zs ws g4 g5 g6 gw o4 o5 o6 ow gx (mixLaw (fun j => (ss.getD j 0 + xs.getD j 0) % 4294967296) (fun j => xs.getD j 0) i)) 8 (fun i hi => ?_)
    (To.of (o := J49_32 (8 : Nat) ss kk zs ws (mixLaw (fun j => (ss.getD j 0 + xs.getD j 0) % 4294967296) (fun j => xs.getD j 0) 8) g4 g5 g6 gw gx cp none cx o4 o5 o6 ow) eT32_ok hmS (Nat.le_refl 10) OrcOk.nil rfl (J49_32_ok (by simp [allP, Con.h])) J49_32_ex J49_32_fm J49_32_tab)
  have hl := mix_len (fun j => (ss.getD j 0 + xs.getD j 0) % 4294967296) (fun j => xs.getD j 0) i
  have hg := mix_get (fun j => (ss.getD j 0 + xs.getD j 0) % 4294967296) (fun j => xs.getD j 0) hi
  refine To.of (o := I49_32 i ss kk zs ws (mixLaw (fun j => (ss.getD j 0 + xs.getD j 0) % 4294967296) (fun j => xs.getD j 0) i) g4 g5 g6 gw gx cp none cx o4 o5 o6 ow) eT32_ok hmS (Nat.le_refl 10) OrcOk.nil rfl (I49_32_ok ?_) I49_32_ex (by rw [I49_32_fm]; rfl) ?_
  · have hm : ∀ y : Int, Wd 64 (y % 18446744073709551616) := fun y => by have := Wd.mod 64 y; rwa [show (2 : Int) ^ 64 = 18446744073709551616 by decide] at this
    simp only [allP, Con.h, nn_64, Int.toNat_natCast, hl, hsl, hg, hm, decide_eq_true_eq, eq_self, true_and, and_true]
    omega
  · rw [I49_32_tab, Int.toNat_natCast, hg, sum2_32, Int.add_comm (xs.getD i 0)]
    show TX49_32 ss kk zs ws g4 g5 g6 gw o4 o5 o6 ow gx ((mixLaw (fun j => (ss.getD j 0 + xs.getD j 0) % 4294967296) (fun j => xs.getD j 0) i).set i ((fun j => (ss.getD j 0 + xs.getD j 0) % 4294967296) i)) = _
    rw [mix_set _ _ hi]
noncomputable def gI49_32c (vs : List AVal) (T : Tab) (ss : List Int) (kk : List Int) (zs : List Int) (ws : List Int) (xs : List Int) (g4 : Nat) (g5 : Nat) (g6 : Nat) (gw : Nat) (gx : Nat) (o4 : Bool) (o5 : Bool) (o6 : Bool) (ow : Bool) (cp : Option Nat) (cx : Option Nat) : Out := ⟨[.tab T (TX32 ss kk zs ws xs g4 g5 g6 gw gx o4 o5 o6 ow), .val (.tuple vs) (.tuple [.slice 1 4 g4 0 8 cp, .var 7 0, .slice 1 9 gx 0 8 cx, .int .i64 0]), .eqN ss.length 8, .eqN xs.length 8], .normal, [(10, .slice 1 9 gx 0 8 cx)], TX32 ss kk zs ws (addx32Law ss xs) g4 g5 g6 gw gx o4 o5 o6 ow, []⟩
theorem gI49_32c_ok {vs : List AVal} {T : Tab} {ss : List Int} {kk : List Int} {zs : List Int} {ws : List Int} {xs : List Int} {g4 : Nat} {g5 : Nat} {g6 : Nat} {gw : Nat} {gx : Nat} {o4 : Bool} {o5 : Bool} {o6 : Bool} {ow : Bool} {cp : Option Nat} {cx : Option Nat} (h : Ok (gI49_32c vs T ss kk zs ws xs g4 g5 g6 gw gx o4 o5 o6 ow cp cx)) : To eT32 157 10 (.block 2 (.loop (roundOf 2 f49))) (zipF [1,4,10,15] vs) T (gI49_32c vs T ss kk zs ws xs g4 g5 g6 gw gx o4 o5 o6 ow cp cx).ex (gI49_32c vs T ss kk zs ws xs g4 g5 g6 gw gx o4 o5 o6 ow cp cx).fm (gI49_32c vs T ss kk zs ws xs g4 g5 g6 gw gx o4 o5 o6 ow cp cx).tab := by
  obtain ⟨hT, hv, h1, h2, _⟩ := h.h
  simp only [Con.h] at hT hv h1 h2
  injection hv with hv
  subst hT hv
  exact loopI49_32 h1 h2
noncomputable def gI49_32 : List AVal → Tab → Out := fun vs T => gI49_32c vs T (xsAt T 4) (xsAt T 5) (xsAt T 6) (xsAt T 8) (xsAt T 9) (gAt T 4) (gAt T 5) (gAt T 6) (gAt T 8) (gAt T 9) (owAt T 4) (owAt T 5) (owAt T 6) (owAt T 8) (capOf (vAt vs 0)) (capOf (vAt vs 2))
theorem gI49_32_ok : BlkOk eT32 f49 2 (.loop (roundOf 2 f49)) (blkS 10 [1,4,10,15] gI49_32) := blkS_ok fun vs T h => gI49_32c_ok h
noncomputable def orc49_32 : OrcL := [(0, blkS2 9 10 [1,2,4,9,10,11] gG49_32), (2, blkS 10 [1,4,10,15] gI49_32)]
theorem orc49_32_ok : FnOrc eT32 f49 orc49_32 := FnOrc.cons gG49_32_ok (by kernel_rfl) (FnOrc.cons gI49_32_ok (by kernel_rfl) FnOrc.nil)
noncomputable def R49_32 (ss kk zs : List Int) (g4 g5 g6 off : Nat) (cp ck : Option Nat) : Res := resG 7 [0, 1, 2, 3, 4, 5, 6, 9] (runF eT32 f49 orc49_32 1000 [.agg [.int .i64 32, .int .i64 64, .int .i64 64, .slice 1 0 0 0 3 (some 3), .slice 1 1 0 0 3 (some 3), .slice 1 2 0 0 3 (some 3), .slice 1 3 0 0 3 (some 3)], .slice 1 4 g4 0 8 cp, .slice 1 5 g5 0 80 ck, .slice 1 6 g6 off 64 none] [some ⟨.ints .i64 [7, 18, 3], 0, false, 3⟩, some ⟨.ints .i64 [17, 19, 10], 0, false, 3⟩, some ⟨.ints .i64 [2, 13, 22], 0, false, 3⟩, some ⟨.ints .i64 [6, 11, 25], 0, false, 3⟩, some ⟨.ints .u64 ss, g4, false, 56⟩, some ⟨.ints .u64 kk, g5, false, 56⟩, some ⟨.ints .u8 zs, g6, false, 5⟩] [])
theorem R49_32_ok {ss kk zs : List Int} {g4 g5 g6 off : Nat} {cp ck : Option Nat} (h : allP [.eqN g6 g6, .p (zz32Law [7, 18, 3] [17, 19, 10] [2, 13, 22] [6, 11, 25]), .eqN g6 g6, .leN (off + 64) zs.length, .p (BsLaw zs), .eqN g4 g4, .leN 8 ss.length, .p (isCubesLaw kk), .p (WdsLaw 32 (schLaw 32 4294967296 [7, 18, 3] [17, 19, 10] (wordsLaw 4 zs off 16) 48)), .eqN ([] ++ List.take 8 ss).length 8, .p
 (WdsLaw 32 ([] ++ List.take 8 ss)), .eqN ss.length 8]) : OkR (R49_32 ss kk zs g4 g5 g6 off cp ck) := OkR.dem (fl := bitsF 33 4331115455) (by kernel_rfl) (by kernel_rfl) (by kernel_rfl) h
theorem R49_32_val {ss kk zs : List Int} {g4 g5 g6 off : Nat} {cp ck : Option Nat} : (R49_32 ss kk zs g4 g5 g6 off cp ck).val = .slice 1 7 0 0 8 (some 8) := by kernel_rfl
theorem R49_32_tab {ss kk zs : List Int} {g4 g5 g6 off : Nat} {cp ck : Option Nat} : (R49_32 ss kk zs g4 g5 g6 off cp ck).tab = [some ⟨.ints .i64 [7, 18, 3], 0, false, 3⟩, some ⟨.ints .i64 [17, 19, 10], 0, false, 3⟩, some ⟨.ints .i64 [2, 13, 22], 0, false, 3⟩, some ⟨.ints .i64 [6, 11, 25], 0, false, 3⟩, some ⟨.ints .u64 ss, g4, false, 56⟩, some ⟨.ints .u64 kk, g5, false, 56⟩, some ⟨.ints .u8 zs,
 g6, false, 5⟩, some ⟨.ints .u64 (addx32Law ss (rndx32Law (schLaw 32 4294967296 [7, 18, 3] [17, 19, 10] (wordsLaw 4 zs off 16) 48) ([] ++ List.take 8 ss))), 0, true, 56⟩] := by kernel_rfl
/-! width 64 -/
def addx64Law (ss xs : List Int) : List Int := mixLaw (fun j => (ss.getD j 0 + xs.getD j 0) % 18446744073709551616) (fun j => xs.getD j 0) 8
def rndx64Law (ws xs : List Int) : List Int := rndsLaw 64 18446744073709551616 [28, 34, 39] [14, 18, 41] ws xs 80
def TX64 (ss kk zs ws xs : List Int) (g4 g5 g6 gw gx : Nat) (o4 o5 o6 ow : Bool) : Tab := [some ⟨.ints .i64 [1, 8, 7], 0, false, 3⟩, some ⟨.ints .i64 [19, 61, 6], 0, false, 3⟩, some ⟨.ints .i64 [28, 34, 39], 0, false, 3⟩, some ⟨.ints .i64 [14, 18, 41], 0, false, 3⟩, some ⟨.ints .u64 ss, g4, o4, 56⟩, some ⟨.ints .u64 kk, g5, o5, 56⟩, some ⟨.ints .u8 zs, g6, o6, 5⟩, some ⟨.agg [.int .i64 64, .int .i64 128, .int .i64 80, .slice 1 0 0 0 3 (some 3), .slice 1 1 0 0 3 (some 3), .slice 1 2 0 0 3 (some 3), .slice 1 3 0 0 3 (some 3)], 0, true, 54⟩, some ⟨.ints .u64 ws, gw, ow, 56⟩, some ⟨.ints .u64 xs, gx, true, 56⟩]
noncomputable def gG49_64c (vs : List AVal) (T : Tab) (ss : List Int) (kk : List Int) (zs : List Int) (ws : List Int) (xs : List Int) (g4 : Nat) (g5 : Nat) (g6 : Nat) (gw : Nat) (gx : Nat) (o4 : Bool) (o5 : Bool) (o6 : Bool) (ow : Bool) (cp : Option Nat) (ck : Option Nat) (cx : Option Nat) : Out := ⟨[.tab T (TX64 ss kk zs ws xs g4 g5 g6 gw gx o4 o5 o6 ow), .val (.tuple vs) (.tuple [.slice 1 4 g4 0 8 cp, .slice 1 5 g5 0 80 ck, .var 7 0, .slice 1 8 gw 0 80 none, .slice 1 9 gx 0 8 cx, .int .i64 0]), .p (isCubesLaw kk), .eqN ws.length 80, .p (WdsLaw 64 ws), .eqN xs.length 8, .p (WdsLaw 64 xs)], .normal, [(1, .slice 1 4 g4 0 8 cp), (4, .var 7 0), (10, .slice 1 9 0 0 8 (some 8))], TX64 ss kk zs ws (rndx64Law ws xs) g4 g5 g6 gw 0 o4 o5 o6 ow, []⟩
theorem gG49_64c_ok {vs : List AVal} {T : Tab} {ss : List Int} {kk : List Int} {zs : List Int} {ws : List Int} {xs : List Int} {g4 : Nat} {g5 : Nat} {g6 : Nat} {gw : Nat} {gx : Nat} {o4 : Bool} {o5 : Bool} {o6 : Bool} {ow : Bool} {cp : Option Nat} {ck : Option Nat} {cx : Option Nat} (h : Ok (gG49_64c vs T ss kk zs ws xs g4 g5 g6 gw gx o4 o5 o6 ow cp ck cx)) : To eT64 157 9 (.block 0 (.loop (roundOf 0 f49))) (zipF [1,2,4,9,10,11] vs) T (gG49_64c vs T ss kk zs ws xs g4 g5 g6 gw gx o4 o5 o6 ow cp ck cx).ex (gG49_64c vs T ss kk zs ws xs g4 g5 g6 gw gx o4 o5 o6 ow cp ck cx).fm (gG49_64c vs T ss kk zs ws xs g4 g5 g6 gw gx o4 o5 o6 ow cp ck cx).tab := by
  obtain ⟨hT, hv, h1, h2, h3, h4, h5, _⟩ := h.h
  simp only [Con.h] at hT hv h1 h2 h3 h4 h5
  injection hv with hv
  subst hT hv
  exact loopG49_64 h1 h2 h3 h4 h5
noncomputable def gG49_64 : List AVal → Tab → Out := fun vs T => gG49_64c vs T (xsAt T 4) (xsAt T 5) (xsAt T 6) (xsAt T 8) (xsAt T 9) (gAt T 4) (gAt T 5) (gAt T 6) (gAt T 8) (gAt T 9) (owAt T 4) (owAt T 5) (owAt T 6) (owAt T 8) (capOf (vAt vs 0)) (capOf (vAt vs 1)) (capOf (vAt vs 4))
theorem gG49_64_ok : BlkOk eT64 f49 0 (.loop (roundOf 0 f49)) (blkS2 9 10 [1,2,4,9,10,11] gG49_64) := blkS2_ok fun vs T h => gG49_64c_ok h
def FI49_64 (g4 gx : Nat) (cp cx : Option Nat) (i : Nat) : Fm := [(1, .slice 1 4 g4 0 8 cp), (4, .var 7 0), (10, .slice 1 9 gx 0 8 cx), (15, .int .i64 i)]
theorem loopI49_64 {ss kk zs ws : List Int} {g4 g5 g6 gw : Nat} {cp : Option Nat} {o4 o5 o6 ow : Bool} {gx : Nat} {cx : Option Nat} {xs : List Int} (hsl : ss.length = 8) (hxl : xs.length = 8) :
    To eT64 157 10 (.block 2 (.loop (roundOf 2 f49))) (FI49_64 g4 gx cp cx 0) (TX49_64 ss kk zs ws g4 g5 g6 gw o4 o5 o6 ow gx xs) .normal [(10, .slice 1 9 gx 0 8 cx)] (TX49_64 ss kk zs ws g4 g5 g6 gw o4 o5 o6 ow gx (mixLaw (fun j => (ss.getD j 0 + xs.getD j 0) % 18446744073709551616) (fun j => xs.getD j 0) 8)) := by
  refine To.start (T0 := TX49_64 ss kk zs ws g4 g5 g6 gw o4 o5 o6 ow gx (mixLaw (fun j => (ss.getD j 0 + xs.getD j 0) % 18446744073709551616) (fun j => xs.getD j 0) 0)) (by rw [mix_zero _ hxl]) ?_
  refine To.rounds (FI49_64 g4 gx cp cx) (fun i => TX49_64 ss kk zs ws g4 g5 g6 gw o4 o5 o6 ow gx (mixLaw (fun j => (ss.getD j 0 + xs.getD j 0) % 18446744073709551616) (fun j => xs.getD j 0) i)) 8 (fun i hi => ?_)
    (To.of (o := J49_64 (8 : Nat) ss kk zs ws (mixLaw (fun j => (ss.getD j 0 + xs.getD j 0) % 18446744073709551616) (fun j => xs.getD j 0) 8) g4 g5 g6 gw gx cp none cx o4 o5 o6 ow) eT64_ok hmS (Nat.le_refl 10) OrcOk.nil rfl (J49_64_ok (by simp [allP, Con.h])) J49_64_ex J49_64_fm J49_64_tab)
  have hl := mix_len (fun j => (ss.getD j 0 + xs.getD j 0) % 18446744073709551616) (fun j => xs.getD j 0) i
  have hg := mix_get (fun j => (ss.getD j 0 + xs.getD j 0) % 18446744073709551616) (fun j => xs.getD j 0) hi
  refine To.of (o := I49_64 i ss kk zs ws (mixLaw (fun j => (ss.getD j 0 + xs.getD j 0) % 18446744073709551616) (fun j => xs.getD j 0) i) g4 g5 g6 gw gx cp none cx o4 o5 o6 ow) eT64_ok hmS (Nat.le_refl 10) OrcOk.nil rfl (I49_64_ok ?_) I49_64_ex (by rw [I49_64_fm]; rfl) ?_
  · have hm : ∀ y : Int, Wd 64 (y % 18446744073709551616) := fun y => by have := Wd.mod 64 y; rwa [show (2 : Int) ^ 64 = 18446744073709551616 by decide] at this
    simp only [allP, Con.h, nn_64, Int.toNat_natCast, hl, hsl, hg, hm, decide_eq_true_eq, eq_self, true_and, and_true]
    omega
  · rw [I49_64_tab, Int.toNat_natCast, hg, Int.add_comm (xs.getD i 0)]
    show TX49_64 ss kk zs ws g4 g5 g6 gw o4 o5 o6 ow gx ((mixLaw (fun j => (ss.getD j 0 + xs.getD j 0) % 18446744073709551616) (fun j => xs.getD j 0) i).set i ((fun j => (ss.getD j 0 + xs.getD j 0) % 18446744073709551616) i)) = _
    rw [mix_set _ _ hi]
noncomputable def gI49_64c (vs : List AVal) (T : Tab) (ss : List Int) (kk : List Int) (zs : List Int) (ws : List Int) (xs : List Int) (g4 : Nat) (g5 : Nat) (g6 : Nat) (gw : Nat) (gx : Nat) (o4 : Bool) (o5 : Bool) (o6 : Bool) (ow : Bool) (cp : Option Nat) (cx : Option Nat) : Out := ⟨[.tab T (TX64 ss kk zs ws xs g4 g5 g6 gw gx o4 o5 o6 ow), .val (.tuple vs) (.tuple [.slice 1 4 g4 0 8 cp, .var 7 0, .slice 1 9 gx 0 8 cx, .int .i64 0]), .eqN ss.length 8, .eqN xs.length 8], .normal, [(10, .slice 1 9 gx 0 8 cx)], TX64 ss kk zs ws (addx64Law ss xs) g4 g5 g6 gw gx o4 o5 o6 ow, []⟩
theorem gI49_64c_ok {vs : List AVal} {T : Tab} {ss : List Int} {kk : List Int} {zs : List Int} {ws : List Int} {xs : List Int} {g4 : Nat} {g5 : Nat} {g6 : Nat} {gw : Nat} {gx : Nat} {o4 : Bool} {o5 : Bool} {o6 : Bool} {ow : Bool} {cp : Option Nat} {cx : Option Nat} (h : Ok (gI49_64c vs T ss kk zs ws xs g4 g5 g6 gw gx o4 o5 o6 ow cp cx)) : To eT64 157 10 (.block 2 (.loop (roundOf 2 f49))) (zipF [1,4,10,15] vs) T (gI49_64c vs T ss kk zs ws xs g4 g5 g6 gw gx o4 o5 o6 ow cp cx).ex (gI49_64c vs T ss kk zs ws xs g4 g5 g6 gw gx o4 o5 o6 ow cp cx).fm (gI49_64c vs T ss kk zs ws xs g4 g5 g6 gw gx o4 o5 o6 ow cp cx).tab := by
  obtain ⟨hT, hv, h1, h2, _⟩ := h.h
  simp only [Con.h] at hT hv h1 h2
  injection hv with hv
  subst hT hv
  exact loopI49_64 h1 h2
noncomputable def gI49_64 : List AVal → Tab → Out := fun vs T => gI49_64c vs T (xsAt T 4) (xsAt T 5) (xsAt T 6) (xsAt T 8) (xsAt T 9) (gAt T 4) (gAt T 5) (gAt T 6) (gAt T 8) (gAt T 9) (owAt T 4) (owAt T 5) (owAt T 6) (owAt T 8) (capOf (vAt vs 0)) (capOf (vAt vs 2))
theorem gI49_64_ok : BlkOk eT64 f49 2 (.loop (roundOf 2 f49)) (blkS 10 [1,4,10,15] gI49_64) := blkS_ok fun vs T h => gI49_64c_ok h
noncomputable def orc49_64 : OrcL := [(0, blkS2 9 10 [1,2,4,9,10,11] gG49_64), (2, blkS 10 [1,4,10,15] gI49_64)]
theorem orc49_64_ok : FnOrc eT64 f49 orc49_64 := FnOrc.cons gG49_64_ok (by kernel_rfl) (FnOrc.cons gI49_64_ok (by kernel_rfl) FnOrc.nil)
noncomputable def R49_64 (ss kk zs : List Int) (g4 g5 g6 off : Nat) (cp ck : Option Nat) : Res := resG 7 [0, 1, 2, 3, 4, 5, 6, 9] (runF eT64 f49 orc49_64 1000 [.agg [.int .i64 64, .int .i64 128, .int .i64 80, .slice 1 0 0 0 3 (some 3), .slice 1 1 0 0 3 (some 3), .slice 1 2 0 0 3 (some 3), .slice 1 3 0 0 3 (some 3)], .slice 1 4 g4 0 8 cp, .slice 1 5 g5 0 80 ck, .slice 1 6 g6 off 128 none] [some ⟨.ints .i64 [1, 8, 7], 0, false, 3⟩, some ⟨.ints .i64 [19, 61, 6], 0, false, 3⟩, some ⟨.ints .i64 [28, 34, 39], 0, false, 3⟩, some ⟨.ints .i64 [14, 18, 41], 0, false, 3⟩, some ⟨.ints .u64 ss, g4, false, 56⟩, some ⟨.ints .u64 kk, g5, false, 56⟩, some ⟨.ints .u8 zs, g6, false, 5⟩] [])
theorem R49_64_ok {ss kk zs : List Int} {g4 g5 g6 off : Nat} {cp ck : Option Nat} (h : allP [.eqN g6 g6, .p (zz64Law [1, 8, 7] [19, 61, 6] [28, 34, 39] [14, 18, 41]), .eqN g6 g6, .leN (off + 128) zs.length, .p (BsLaw zs), .eqN g4 g4, .leN 8 ss.length, .p (isCubesLaw kk), .p (WdsLaw 64 (schLaw 64 18446744073709551616 [1, 8, 7] [19, 61, 6] (wordsLaw 8 zs off 16) 64)), .eqN ([] ++ List.take 8
 ss).length 8, .p (WdsLaw 64 ([] ++ List.take 8 ss)), .eqN ss.length 8]) : OkR (R49_64 ss kk zs g4 g5 g6 off cp ck) := OkR.dem (fl := bitsF 33 4331115455) (by kernel_rfl) (by kernel_rfl) (by kernel_rfl) h
theorem R49_64_val {ss kk zs : List Int} {g4 g5 g6 off : Nat} {cp ck : Option Nat} : (R49_64 ss kk zs g4 g5 g6 off cp ck).val = .slice 1 7 0 0 8 (some 8) := by kernel_rfl
theorem R49_64_tab {ss kk zs : List Int} {g4 g5 g6 off : Nat} {cp ck : Option Nat} : (R49_64 ss kk zs g4 g5 g6 off cp ck).tab = [some ⟨.ints .i64 [1, 8, 7], 0, false, 3⟩, some ⟨.ints .i64 [19, 61, 6], 0, false, 3⟩, some ⟨.ints .i64 [28, 34, 39], 0, false, 3⟩, some ⟨.ints .i64 [14, 18, 41], 0, false, 3⟩, some ⟨.ints .u64 ss, g4, false, 56⟩, some ⟨.ints .u64 kk, g5, false, 56⟩, some ⟨.ints .u8 zs,
 g6, false, 5⟩, some ⟨.ints .u64 (addx64Law ss (rndx64Law (schLaw 64 18446744073709551616 [1, 8, 7] [19, 61, 6] (wordsLaw 8 zs off 16) 64) ([] ++ List.take 8 ss))), 0, true, 56⟩] := by kernel_rfl
end Go.Abs
