/- What functions of the given program come to, by the abstract machine: one text of a proof. -/
import Derived.Test.YtkbfjfookfmobaaDoorDC3
set_option linter.unusedVariables false
set_option linter.unusedSimpArgs false
set_option maxRecDepth 8000
set_option maxHeartbeats 2000000
namespace Go.Abs
open Go.Proofs Go.Proofs.Tryd
/-! ### the document's words of a block: loops -/
def FC56_32 (g4 off g6 m i : Nat) (x : Int) (k : Nat) : Fm := [(1, .slice 1 4 g4 off 64 none), (2, .var 5 0), (5, .int .i64 4), (6, .slice 1 6 g6 0 m none), (7, .int .i64 i), (8, .int .u64 x), (9, .int .i64 k)]
def TC56_32 (zs ws : List Int) (g4 g6 : Nat) (ow : Bool) : Tab := [some ⟨.ints .i64 [7, 18, 3], 0, false, 3⟩, some ⟨.ints .i64 [17, 19, 10], 0, false, 3⟩, some ⟨.ints .i64 [2, 13, 22], 0, false, 3⟩, some ⟨.ints .i64 [6, 11, 25], 0, false, 3⟩, some ⟨.ints .u8 zs, g4, ow, 5⟩, some ⟨.agg [.int .i64 32, .int .i64 64, .int .i64 64, .slice 1 0 0 0 3 (some 3), .slice 1 1 0 0 3 (some 3), .slice 1 2 0 0 3 (some 3), .slice 1 3 0 0 3 (some 3)], 0, true, 54⟩, some ⟨.ints .u64 ws, g6, true, 56⟩]
theorem loopC56_32 {zs ws : List Int} {g4 g6 : Nat} {ow : Bool} {off m i : Nat} (hi : i < 16) (hz : off + 64 ≤ zs.length) (hb : BsLaw zs) :
    To eR32 82 7 (.block 2 (.loop (roundOf 2 f56))) (FC56_32 g4 off g6 m i 0 0) (TC56_32 zs ws g4 g6 ow) .normal [(1, .slice 1 4 g4 off 64 none), (2, .var 5 0), (5, .int .i64 4), (6, .slice 1 6 g6 0 m none), (7, .int .i64 i), (8, .int .u64 (wdLaw zs (off + 4 * i) 4))] (TC56_32 zs ws g4 g6 ow) := by
  refine To.rounds (fun k => FC56_32 g4 off g6 m i (wdLaw zs (off + 4 * i) k) k) (fun k => TC56_32 zs ws g4 g6 ow) 4 (fun k hk => ?_)
    (To.of (o := D56_32 i (4 : Nat) (wdLaw zs (off + 4 * i) 4) off m zs ws g4 g6 ow) eR32_ok hmS (Nat.le_refl 7) OrcOk.nil rfl (D56_32_ok (by simp [allP, Con.h])) D56_32_ex D56_32_fm D56_32_tab)
  have hw := wdLaw_rng hb (off + 4 * i) k
  have hq := hb (off + (4 * i + k))
  have hp : (256 : Int) ^ k * 256 ≤ 18446744073709551616 := by
    have : ∀ k, k < 4 → (256 : Int) ^ k * 256 ≤ 18446744073709551616 := by decide
    exact this k hk
  have hmul : 0 ≤ wdLaw zs (off + 4 * i) k * 256 ∧ wdLaw zs (off + 4 * i) k * 256 < 18446744073709551616 := by
    generalize (256 : Int) ^ k = p at hp hw; omega
  have hmd : wdLaw zs (off + 4 * i) k * 256 % 18446744073709551616 = wdLaw zs (off + 4 * i) k * 256 := Int.emod_eq_of_lt hmul.1 hmul.2
  have hix : (4 * (i : Int) + (k : Int)).toNat = 4 * i + k := by omega
  refine To.of (o := C56_32 i k (wdLaw zs (off + 4 * i) k) off m zs ws g4 g6 ow) eR32_ok hmS (Nat.le_refl 7) OrcOk.nil rfl (C56_32_ok ?_) C56_32_ex ?_ C56_32_tab
  · simp only [addO_eq, hix, hmd]
    have n1 : nonneg .u64 (wdLaw zs (off + 4 * i) k * 256) := hmul
    have n2 : nonneg .u64 (zs.getD (off + (4 * i + k)) 0) := ⟨hq.1, by have := hq.2; show _ < (18446744073709551616 : Int); omega⟩
    simp only [allP, Con.h, n1, n2, decide_eq_true_eq, eq_self, true_and, and_true]
    omega
  · rw [C56_32_fm]
    simp only [addO_eq, hix, hmd]
    rw [ior_add8 hw.1 hq]
    show _ = FC56_32 g4 off g6 m i (wdLaw zs (off + 4 * i) k * 256 + zs.getD (off + 4 * i + k) 0) (k + 1)
    rw [Nat.add_assoc off]
    rfl
noncomputable def gC56_32 : List AVal → Tab → Out := fun vs T => match vs, T with
  | [.slice 1 4 g4' off b none, .var 5 0, .int .i64 c, .slice 1 6 g6' 0 m none, .int .i64 i, .int .u64 x, .int .i64 k], [some ⟨.ints .i64 a0, 0, false, 3⟩, some ⟨.ints .i64 a1, 0, false, 3⟩, some ⟨.ints .i64 a2, 0, false, 3⟩, some ⟨.ints .i64 a3, 0, false, 3⟩, some ⟨.ints .u8 zs, g4, ow, 5⟩, some ⟨.agg [.int .i64 bb, .int .i64 bk, .int .i64 br, .slice 1 0 0 0 3 (some 3), .slice 1 1 0 0 3 (some 3), .slice 1 2 0 0 3 (some 3), .slice 1 3 0 0 3 (some 3)], 0, true, 54⟩, some ⟨.ints .u64 ws, g6, true, 56⟩] =>
    ⟨[.rng 32 bb 32, .rng 64 bk 64, .rng 64 br 64, .p (zz32Law a0 a1 a2 a3), .eqN g4' g4, .eqN g6' g6, .eqN b 64, .rng 4 c 4, .rng 0 i 15, .rng 0 x 0, .rng 0 k 0, .leN (off + 64) zs.length, .p (BsLaw zs)], .normal,
      [(1, .slice 1 4 g4 off 64 none), (2, .var 5 0), (5, .int .i64 4), (6, .slice 1 6 g6 0 m none), (7, .int .i64 i), (8, .int .u64 (wdLaw zs (off + 4 * i.toNat) 4))], [some ⟨.ints .i64 a0, 0, false, 3⟩, some ⟨.ints .i64 a1, 0, false, 3⟩, some ⟨.ints .i64 a2, 0, false, 3⟩, some ⟨.ints .i64 a3, 0, false, 3⟩, some ⟨.ints .u8 zs, g4, ow, 5⟩, some ⟨.agg [.int .i64 bb, .int .i64 bk, .int .i64 br, .slice 1 0 0 0 3 (some 3), .slice 1 1 0 0 3 (some 3), .slice 1 2 0 0 3 (some 3), .slice 1 3 0 0 3 (some 3)], 0, true, 54⟩, some ⟨.ints .u64 ws, g6, true, 56⟩], []⟩
  | _, _ => failO
theorem gC56_32_ok : BlkOk eR32 f56 2 (.loop (roundOf 2 f56)) (blkS 7 [1,2,5,6,7,8,9] gC56_32) := by
  refine blkS_ok fun vs T h => ?_
  unfold gC56_32 at h ⊢
  split at h
  · rename_i g4' off b c g6' m i x k a0 a1 a2 a3 zs g4 ow bb bk br ws g6
    obtain ⟨z1, z2, z3, z4, h1, h2, h3, h4, h5, h6, h7, h8, h9, _⟩ := h.h
    simp only [Con.h] at z1 z2 z3 z4 h1 h2 h3 h4 h5 h6 h7 h8 h9
    obtain rfl : bb = 32 := by omega
    obtain rfl : bk = 64 := by omega
    obtain rfl : br = 64 := by omega
    obtain ⟨z4, z5, z6, z7⟩ := z4
    subst z4 z5 z6 z7
    obtain rfl : c = 4 := by omega
    obtain rfl : x = 0 := by omega
    obtain rfl : k = 0 := by omega
    obtain ⟨q, rfl⟩ : ∃ q : Nat, i = q := ⟨i.toNat, by omega⟩
    subst h1 h2 h3
    exact loopC56_32 (by omega) h8 h9
  · exact absurd h nofailO
noncomputable def O56_32 (i : Int) (off m : Nat) (zs ws : List Int) (g4 g6 : Nat) (ow : Bool) : Out := trim 7 7 [1,2,5,6,7] (run eR32 82 ⟨7, [(2, blkS 7 [1,2,5,6,7,8,9] gC56_32)]⟩ 400 (roundOf 0 f56) [(1, .slice 1 4 g4 off 64 none), (2, .var 5 0), (5, .int .i64 4), (6, .slice 1 6 g6 0 m none), (7, .int .i64 i)] [some ⟨.ints .i64 [7, 18, 3], 0, false, 3⟩, some ⟨.ints .i64 [17, 19, 10], 0, false, 3⟩, some ⟨.ints .i64 [2, 13, 22], 0, false, 3⟩, some ⟨.ints .i64 [6, 11, 25], 0, false, 3⟩, some ⟨.ints .u8 zs, g4, ow, 5⟩, some ⟨.agg [.int .i64 32, .int .i64 64, .int .i64 64, .slice 1 0 0 0 3 (some 3), .slice 1 1 0 0 3 (some 3), .slice 1 2 0 0 3 (some 3), .slice 1 3 0 0 3 (some 3)], 0, true, 54⟩, some ⟨.ints .u64 ws, g6, true, 56⟩] [some true])
theorem O56_32_ok {i : Int} {off m : Nat} {zs ws : List Int} {g4 g6 : Nat} {ow : Bool} (h : allP [.p (decide (i < 16) = true), .p (zz32Law [7, 18, 3] [17, 19, 10] [2, 13, 22] [6, 11, 25]), .eqN g4 g4, .eqN g6 g6, .rng 0 i 15, .leN (off + 64) zs.length, .p (BsLaw zs), .eqN g6 g6, .leN (0 + m) ws.length, .leN (addO m 1 * 8) 140737488355328, .rng (-9223372036854775808) (i + 1) 9223372036854775807]) :
 Ok (O56_32 i off m zs ws g4 g6 ow) := Ok.dem (fl := bitsF 24 7458190) (by kernel_rfl) (by kernel_rfl) (by kernel_rfl) h
theorem O56_32_ex {i : Int} {off m : Nat} {zs ws : List Int} {g4 g6 : Nat} {ow : Bool} : (O56_32 i off m zs ws g4 g6 ow).ex = .normal := by kernel_rfl
theorem O56_32_fm {i : Int} {off m : Nat} {zs ws : List Int} {g4 g6 : Nat} {ow : Bool} : (O56_32 i off m zs ws g4 g6 ow).fm = [(1, .slice 1 4 g4 off 64 none), (2, .var 5 0), (5, .int .i64 4), (6, .slice 1 6 (g6 + 1) 0 (addO m 1) none), (7, .int .i64 (i + 1))] := by kernel_rfl
theorem O56_32_tab {i : Int} {off m : Nat} {zs ws : List Int} {g4 g6 : Nat} {ow : Bool} : (O56_32 i off m zs ws g4 g6 ow).tab = [some ⟨.ints .i64 [7, 18, 3], 0, false, 3⟩, some ⟨.ints .i64 [17, 19, 10], 0, false, 3⟩, some ⟨.ints .i64 [2, 13, 22], 0, false, 3⟩, some ⟨.ints .i64 [6, 11, 25], 0, false, 3⟩, some ⟨.ints .u8 zs, g4, ow, 5⟩, some ⟨.agg [.int .i64 32, .int .i64 64, .int .i64 64, .slice 1 0
 0 0 3 (some 3), .slice 1 1 0 0 3 (some 3), .slice 1 2 0 0 3 (some 3), .slice 1 3 0 0 3 (some 3)], 0, true, 54⟩, some ⟨.ints .u64 (List.take m ws ++ List.take 1 ([0].set 0 (wdLaw zs (off + 4 * i.toNat) 4))), g6 + 1, true, 56⟩] := by kernel_rfl
noncomputable def P56_32 (i : Int) (off m : Nat) (zs ws : List Int) (g4 g6 : Nat) (ow : Bool) : Out := trim 7 7 [2,6] (run eR32 82 ⟨7, [(2, blkS 7 [1,2,5,6,7,8,9] gC56_32)]⟩ 400 (roundOf 0 f56) [(1, .slice 1 4 g4 off 64 none), (2, .var 5 0), (5, .int .i64 4), (6, .slice 1 6 g6 0 m none), (7, .int .i64 i)] [some ⟨.ints .i64 [7, 18, 3], 0, false, 3⟩, some ⟨.ints .i64 [17, 19, 10], 0, false, 3⟩, some ⟨.ints .i64 [2, 13, 22], 0, false, 3⟩, some ⟨.ints .i64 [6, 11, 25], 0, false, 3⟩, some ⟨.ints .u8 zs, g4, ow, 5⟩, some ⟨.agg [.int .i64 32, .int .i64 64, .int .i64 64, .slice 1 0 0 0 3 (some 3), .slice 1 1 0 0 3 (some 3), .slice 1 2 0 0 3 (some 3), .slice 1 3 0 0 3 (some 3)], 0, true, 54⟩, some ⟨.ints .u64 ws, g6, true, 56⟩] [some false])
theorem P56_32_ok {i : Int} {off m : Nat} {zs ws : List Int} {g4 g6 : Nat} {ow : Bool} (h : allP [.p (decide (i < 16) = false)]) : Ok (P56_32 i off m zs ws g4 g6 ow) := Ok.dem (fl := [false]) (by kernel_rfl) (by kernel_rfl) (by kernel_rfl) h
theorem P56_32_ex {i : Int} {off m : Nat} {zs ws : List Int} {g4 g6 : Nat} {ow : Bool} : (P56_32 i off m zs ws g4 g6 ow).ex = .exit 0 := by kernel_rfl
theorem P56_32_fm {i : Int} {off m : Nat} {zs ws : List Int} {g4 g6 : Nat} {ow : Bool} : (P56_32 i off m zs ws g4 g6 ow).fm = [(2, .var 5 0), (6, .slice 1 6 g6 0 m none)] := by kernel_rfl
theorem P56_32_tab {i : Int} {off m : Nat} {zs ws : List Int} {g4 g6 : Nat} {ow : Bool} : (P56_32 i off m zs ws g4 g6 ow).tab = [some ⟨.ints .i64 [7, 18, 3], 0, false, 3⟩, some ⟨.ints .i64 [17, 19, 10], 0, false, 3⟩, some ⟨.ints .i64 [2, 13, 22], 0, false, 3⟩, some ⟨.ints .i64 [6, 11, 25], 0, false, 3⟩, some ⟨.ints .u8 zs, g4, ow, 5⟩, some ⟨.agg [.int .i64 32, .int .i64 64, .int .i64 64, .slice 1 0
 0 0 3 (some 3), .slice 1 1 0 0 3 (some 3), .slice 1 2 0 0 3 (some 3), .slice 1 3 0 0 3 (some 3)], 0, true, 54⟩, some ⟨.ints .u64 ws, g6, true, 56⟩] := by kernel_rfl
def FC56_64 (g4 off g6 m i : Nat) (x : Int) (k : Nat) : Fm := [(1, .slice 1 4 g4 off 128 none), (2, .var 5 0), (5, .int .i64 8), (6, .slice 1 6 g6 0 m none), (7, .int .i64 i), (8, .int .u64 x), (9, .int .i64 k)]
def TC56_64 (zs ws : List Int) (g4 g6 : Nat) (ow : Bool) : Tab := [some ⟨.ints .i64 [1, 8, 7], 0, false, 3⟩, some ⟨.ints .i64 [19, 61, 6], 0, false, 3⟩, some ⟨.ints .i64 [28, 34, 39], 0, false, 3⟩, some ⟨.ints .i64 [14, 18, 41], 0, false, 3⟩, some ⟨.ints .u8 zs, g4, ow, 5⟩, some ⟨.agg [.int .i64 64, .int .i64 128, .int .i64 80, .slice 1 0 0 0 3 (some 3), .slice 1 1 0 0 3 (some 3), .slice 1 2 0 0 3 (some 3), .slice 1 3 0 0 3 (some 3)], 0, true, 54⟩, some ⟨.ints .u64 ws, g6, true, 56⟩]
theorem loopC56_64 {zs ws : List Int} {g4 g6 : Nat} {ow : Bool} {off m i : Nat} (hi : i < 16) (hz : off + 128 ≤ zs.length) (hb : BsLaw zs) :
    To eR64 82 7 (.block 2 (.loop (roundOf 2 f56))) (FC56_64 g4 off g6 m i 0 0) (TC56_64 zs ws g4 g6 ow) .normal [(1, .slice 1 4 g4 off 128 none), (2, .var 5 0), (5, .int .i64 8), (6, .slice 1 6 g6 0 m none), (7, .int .i64 i), (8, .int .u64 (wdLaw zs (off + 8 * i) 8))] (TC56_64 zs ws g4 g6 ow) := by
  refine To.rounds (fun k => FC56_64 g4 off g6 m i (wdLaw zs (off + 8 * i) k) k) (fun k => TC56_64 zs ws g4 g6 ow) 8 (fun k hk => ?_)
    (To.of (o := D56_64 i (8 : Nat) (wdLaw zs (off + 8 * i) 8) off m zs ws g4 g6 ow) eR64_ok hmS (Nat.le_refl 7) OrcOk.nil rfl (D56_64_ok (by simp [allP, Con.h])) D56_64_ex D56_64_fm D56_64_tab)
  have hw := wdLaw_rng hb (off + 8 * i) k
  have hq := hb (off + (8 * i + k))
  have hp : (256 : Int) ^ k * 256 ≤ 18446744073709551616 := by
    have : ∀ k, k < 8 → (256 : Int) ^ k * 256 ≤ 18446744073709551616 := by decide
    exact this k hk
  have hmul : 0 ≤ wdLaw zs (off + 8 * i) k * 256 ∧ wdLaw zs (off + 8 * i) k * 256 < 18446744073709551616 := by
    generalize (256 : Int) ^ k = p at hp hw; omega
  have hmd : wdLaw zs (off + 8 * i) k * 256 % 18446744073709551616 = wdLaw zs (off + 8 * i) k * 256 := Int.emod_eq_of_lt hmul.1 hmul.2
  have hix : (8 * (i : Int) + (k : Int)).toNat = 8 * i + k := by omega
  refine To.of (o := C56_64 i k (wdLaw zs (off + 8 * i) k) off m zs ws g4 g6 ow) eR64_ok hmS (Nat.le_refl 7) OrcOk.nil rfl (C56_64_ok ?_) C56_64_ex ?_ C56_64_tab
  · simp only [addO_eq, hix, hmd]
    have n1 : nonneg .u64 (wdLaw zs (off + 8 * i) k * 256) := hmul
    have n2 : nonneg .u64 (zs.getD (off + (8 * i + k)) 0) := ⟨hq.1, by have := hq.2; show _ < (18446744073709551616 : Int); omega⟩
    simp only [allP, Con.h, n1, n2, decide_eq_true_eq, eq_self, true_and, and_true]
    omega
  · rw [C56_64_fm]
    simp only [addO_eq, hix, hmd]
    rw [ior_add8 hw.1 hq]
    show _ = FC56_64 g4 off g6 m i (wdLaw zs (off + 8 * i) k * 256 + zs.getD (off + 8 * i + k) 0) (k + 1)
    rw [Nat.add_assoc off]
    rfl
noncomputable def gC56_64 : List AVal → Tab → Out := fun vs T => match vs, T with
  | [.slice 1 4 g4' off b none, .var 5 0, .int .i64 c, .slice 1 6 g6' 0 m none, .int .i64 i, .int .u64 x, .int .i64 k], [some ⟨.ints .i64 a0, 0, false, 3⟩, some ⟨.ints .i64 a1, 0, false, 3⟩, some ⟨.ints .i64 a2, 0, false, 3⟩, some ⟨.ints .i64 a3, 0, false, 3⟩, some ⟨.ints .u8 zs, g4, ow, 5⟩, some ⟨.agg [.int .i64 bb, .int .i64 bk, .int .i64 br, .slice 1 0 0 0 3 (some 3), .slice 1 1 0 0 3 (some 3), .slice 1 2 0 0 3 (some 3), .slice 1 3 0 0 3 (some 3)], 0, true, 54⟩, some ⟨.ints .u64 ws, g6, true, 56⟩] =>
    ⟨[.rng 64 bb 64, .rng 128 bk 128, .rng 80 br 80, .p (zz64Law a0 a1 a2 a3), .eqN g4' g4, .eqN g6' g6, .eqN b 128, .rng 8 c 8, .rng 0 i 15, .rng 0 x 0, .rng 0 k 0, .leN (off + 128) zs.length, .p (BsLaw zs)], .normal,
      [(1, .slice 1 4 g4 off 128 none), (2, .var 5 0), (5, .int .i64 8), (6, .slice 1 6 g6 0 m none), (7, .int .i64 i), (8, .int .u64 (wdLaw zs (off + 8 * i.toNat) 8))], [some ⟨.ints .i64 a0, 0, false, 3⟩, some ⟨.ints .i64 a1, 0, false, 3⟩, some ⟨.ints .i64 a2, 0, false, 3⟩, some ⟨.ints .i64 a3, 0, false, 3⟩, some ⟨.ints .u8 zs, g4, ow, 5⟩, some ⟨.agg [.int .i64 bb, .int .i64 bk, .int .i64 br, .slice 1 0 0 0 3 (some 3), .slice 1 1 0 0 3 (some 3), .slice 1 2 0 0 3 (some 3), .slice 1 3 0 0 3 (some 3)], 0, true, 54⟩, some ⟨.ints .u64 ws, g6, true, 56⟩], []⟩
  | _, _ => failO
theorem gC56_64_ok : BlkOk eR64 f56 2 (.loop (roundOf 2 f56)) (blkS 7 [1,2,5,6,7,8,9] gC56_64) := by
  refine blkS_ok fun vs T h => ?_
  unfold gC56_64 at h ⊢
  split at h
  · rename_i g4' off b c g6' m i x k a0 a1 a2 a3 zs g4 ow bb bk br ws g6
    obtain ⟨z1, z2, z3, z4, h1, h2, h3, h4, h5, h6, h7, h8, h9, _⟩ := h.h
    simp only [Con.h] at z1 z2 z3 z4 h1 h2 h3 h4 h5 h6 h7 h8 h9
    obtain rfl : bb = 64 := by omega
    obtain rfl : bk = 128 := by omega
    obtain rfl : br = 80 := by omega
    obtain ⟨z4, z5, z6, z7⟩ := z4
    subst z4 z5 z6 z7
    obtain rfl : c = 8 := by omega
    obtain rfl : x = 0 := by omega
    obtain rfl : k = 0 := by omega
    obtain ⟨q, rfl⟩ : ∃ q : Nat, i = q := ⟨i.toNat, by omega⟩
    subst h1 h2 h3
    exact loopC56_64 (by omega) h8 h9
  · exact absurd h nofailO
noncomputable def O56_64 (i : Int) (off m : Nat) (zs ws : List Int) (g4 g6 : Nat) (ow : Bool) : Out := trim 7 7 [1,2,5,6,7] (run eR64 82 ⟨7, [(2, blkS 7 [1,2,5,6,7,8,9] gC56_64)]⟩ 400 (roundOf 0 f56) [(1, .slice 1 4 g4 off 128 none), (2, .var 5 0), (5, .int .i64 8), (6, .slice 1 6 g6 0 m none), (7, .int .i64 i)] [some ⟨.ints .i64 [1, 8, 7], 0, false, 3⟩, some ⟨.ints .i64 [19, 61, 6], 0, false, 3⟩, some ⟨.ints .i64 [28, 34, 39], 0, false, 3⟩, some ⟨.ints .i64 [14, 18, 41], 0, false, 3⟩, some ⟨.ints .u8 zs, g4, ow, 5⟩, some ⟨.agg [.int .i64 64, .int .i64 128, .int .i64 80, .slice 1 0 0 0 3 (some 3), .slice 1 1 0 0 3 (some 3), .slice 1 2 0 0 3 (some 3), .slice 1 3 0 0 3 (some 3)], 0, true, 54⟩, some ⟨.ints .u64 ws, g6, true, 56⟩] [some true])
theorem O56_64_ok {i : Int} {off m : Nat} {zs ws : List Int} {g4 g6 : Nat} {ow : Bool} (h : allP [.p (decide (i < 16) = true), .p (zz64Law [1, 8, 7] [19, 61, 6] [28, 34, 39] [14, 18, 41]), .eqN g4 g4, .eqN g6 g6, .rng 0 i 15, .leN (off + 128) zs.length, .p (BsLaw zs), .eqN g6 g6, .leN (0 + m) ws.length, .leN (addO m 1 * 8) 140737488355328, .rng (-9223372036854775808) (i + 1) 9223372036854775807]) :
 Ok (O56_64 i off m zs ws g4 g6 ow) := Ok.dem (fl := bitsF 24 7458190) (by kernel_rfl) (by kernel_rfl) (by kernel_rfl) h
theorem O56_64_ex {i : Int} {off m : Nat} {zs ws : List Int} {g4 g6 : Nat} {ow : Bool} : (O56_64 i off m zs ws g4 g6 ow).ex = .normal := by kernel_rfl
theorem O56_64_fm {i : Int} {off m : Nat} {zs ws : List Int} {g4 g6 : Nat} {ow : Bool} : (O56_64 i off m zs ws g4 g6 ow).fm = [(1, .slice 1 4 g4 off 128 none), (2, .var 5 0), (5, .int .i64 8), (6, .slice 1 6 (g6 + 1) 0 (addO m 1) none), (7, .int .i64 (i + 1))] := by kernel_rfl
theorem O56_64_tab {i : Int} {off m : Nat} {zs ws : List Int} {g4 g6 : Nat} {ow : Bool} : (O56_64 i off m zs ws g4 g6 ow).tab = [some ⟨.ints .i64 [1, 8, 7], 0, false, 3⟩, some ⟨.ints .i64 [19, 61, 6], 0, false, 3⟩, some ⟨.ints .i64 [28, 34, 39], 0, false, 3⟩, some ⟨.ints .i64 [14, 18, 41], 0, false, 3⟩, some ⟨.ints .u8 zs, g4, ow, 5⟩, some ⟨.agg [.int .i64 64, .int .i64 128, .int .i64 80, .slice 1
 0 0 0 3 (some 3), .slice 1 1 0 0 3 (some 3), .slice 1 2 0 0 3 (some 3), .slice 1 3 0 0 3 (some 3)], 0, true, 54⟩, some ⟨.ints .u64 (List.take m ws ++ List.take 1 ([0].set 0 (wdLaw zs (off + 8 * i.toNat) 8))), g6 + 1, true, 56⟩] := by kernel_rfl
noncomputable def P56_64 (i : Int) (off m : Nat) (zs ws : List Int) (g4 g6 : Nat) (ow : Bool) : Out := trim 7 7 [2,6] (run eR64 82 ⟨7, [(2, blkS 7 [1,2,5,6,7,8,9] gC56_64)]⟩ 400 (roundOf 0 f56) [(1, .slice 1 4 g4 off 128 none), (2, .var 5 0), (5, .int .i64 8), (6, .slice 1 6 g6 0 m none), (7, .int .i64 i)] [some ⟨.ints .i64 [1, 8, 7], 0, false, 3⟩, some ⟨.ints .i64 [19, 61, 6], 0, false, 3⟩, some ⟨.ints .i64 [28, 34, 39], 0, false, 3⟩, some ⟨.ints .i64 [14, 18, 41], 0, false, 3⟩, some ⟨.ints .u8 zs, g4, ow, 5⟩, some ⟨.agg [.int .i64 64, .int .i64 128, .int .i64 80, .slice 1 0 0 0 3 (some 3), .slice 1 1 0 0 3 (some 3), .slice 1 2 0 0 3 (some 3), .slice 1 3 0 0 3 (some 3)], 0, true, 54⟩, some ⟨.ints .u64 ws, g6, true, 56⟩] [some false])
theorem P56_64_ok {i : Int} {off m : Nat} {zs ws : List Int} {g4 g6 : Nat} {ow : Bool} (h : allP [.p (decide (i < 16) = false)]) : Ok (P56_64 i off m zs ws g4 g6 ow) := Ok.dem (fl := [false]) (by kernel_rfl) (by kernel_rfl) (by kernel_rfl) h
theorem P56_64_ex {i : Int} {off m : Nat} {zs ws : List Int} {g4 g6 : Nat} {ow : Bool} : (P56_64 i off m zs ws g4 g6 ow).ex = .exit 0 := by kernel_rfl
theorem P56_64_fm {i : Int} {off m : Nat} {zs ws : List Int} {g4 g6 : Nat} {ow : Bool} : (P56_64 i off m zs ws g4 g6 ow).fm = [(2, .var 5 0), (6, .slice 1 6 g6 0 m none)] := by kernel_rfl
theorem P56_64_tab {i : Int} {off m : Nat} {zs ws : List Int} {g4 g6 : Nat} {ow : Bool} : (P56_64 i off m zs ws g4 g6 ow).tab = [some ⟨.ints .i64 [1, 8, 7], 0, false, 3⟩, some ⟨.ints .i64 [19, 61, 6], 0, false, 3⟩, some ⟨.ints .i64 [28, 34, 39], 0, false, 3⟩, some ⟨.ints .i64 [14, 18, 41], 0, false, 3⟩, some ⟨.ints .u8 zs, g4, ow, 5⟩, some ⟨.agg [.int .i64 64, .int .i64 128, .int .i64 80, .slice 1
 0 0 0 3 (some 3), .slice 1 1 0 0 3 (some 3), .slice 1 2 0 0 3 (some 3), .slice 1 3 0 0 3 (some 3)], 0, true, 54⟩, some ⟨.ints .u64 ws, g6, true, 56⟩] := by kernel_rfl
end Go.Abs
