/- What functions of the given program come to, by the abstract machine: one text of a proof. -/
import Derived.Test.YtkbfjfookfmobaaDoorDA2
set_option linter.unusedVariables false
set_option linter.unusedSimpArgs false
set_option maxRecDepth 8000
namespace Go.Abs
open Go.Proofs Go.Proofs.Tryd
theorem ior_add8 {a b : Int} (ha : 0 ≤ a) (hb : 0 ≤ b ∧ b < 256) : ior (a * 256) b = a * 256 + b := by
  obtain ⟨n, rfl⟩ := Int.eq_ofNat_of_zero_le ha
  obtain ⟨m, rfl⟩ := Int.eq_ofNat_of_zero_le hb.1
  have hm : m < 2 ^ 8 := by omega
  have h := Nat.two_pow_add_eq_or_of_lt hm n
  unfold ior
  rw [show ((n : Int) * 256).toNat = 2 ^ 8 * n by omega, Int.toNat_natCast, ← h]
  omega
theorem wdLaw_rng {bs : List Int} (hb : ∀ i, 0 ≤ bs.getD i 0 ∧ bs.getD i 0 < 256) (a : Nat) : ∀ k, 0 ≤ wdLaw bs a k ∧ wdLaw bs a k < 256 ^ k
  | 0 => by simp [wdLaw]
  | k + 1 => by
    have h := wdLaw_rng hb a k
    have h2 := hb (a + k)
    rw [wdLaw, Int.pow_succ]
    omega
theorem arrLaw_len {n : Nat} {bs : List Int} {a i k : Nat} (hi : i < 16) : (arrLaw n bs a i k).length = 80 := by simp [arrLaw, wordsLaw_len]; omega
theorem arrLaw_get {n : Nat} {bs : List Int} {a i k : Nat} : (arrLaw n bs a i k).getD i 0 = wdLaw bs (a + n * i) k := by
  unfold arrLaw
  rw [List.getD_eq_getElem?_getD, List.getElem?_append_right (by rw [wordsLaw_len]; exact Nat.le_refl _), wordsLaw_len, Nat.sub_self]; rfl
theorem arrLaw_set {n : Nat} {bs : List Int} {a i k : Nat} {v : Int} : (arrLaw n bs a i k).set i v = wordsLaw n bs a i ++ v :: List.replicate (79 - i) 0 := by
  unfold arrLaw
  rw [List.set_append, if_neg (by rw [wordsLaw_len]; omega), wordsLaw_len, Nat.sub_self]; rfl
theorem arrLaw_next {n : Nat} {bs : List Int} {a i : Nat} (hi : i < 79) : arrLaw n bs a i n = arrLaw n bs a (i + 1) 0 := by
  unfold arrLaw
  rw [wordsLaw_succ, List.append_assoc, show 79 - i = (79 - (i + 1)) + 1 by omega]
  rfl
theorem arrLaw_zero (n : Nat) (bs : List Int) (a : Nat) : arrLaw n bs a 0 0 = List.replicate 80 0 := rfl
theorem arrLaw_end (n : Nat) (bs : List Int) (a : Nat) : arrLaw n bs a 15 n = wordsLaw n bs a 16 ++ List.replicate 64 0 := by
  rw [arrLaw_next (by omega)]; rfl
theorem cubes_rng : ∀ t, 0 ≤ cubesLaw.getD t 0 ∧ cubesLaw.getD t 0 < 18446744073709551616 := by
  have h : ((List.range 80).all fun i => decide (0 ≤ cubesLaw.getD i 0) && decide (cubesLaw.getD i 0 < 18446744073709551616)) = true := by kernel_rfl
  intro t
  rcases Nat.lt_or_ge t 80 with ht | ht
  · simpa using List.all_eq_true.1 h t (List.mem_range.2 ht)
  · rw [List.getD_eq_getElem?_getD, List.getElem?_eq_none (by rw [show cubesLaw.length = 80 by kernel_rfl]; omega)]; decide
theorem list8 {l : List Int} (h : l.length = 8) : ∃ a0 a1 a2 a3 a4 a5 a6 a7, l = [a0, a1, a2, a3, a4, a5, a6, a7] := by
  match l, h with
  | [a0, a1, a2, a3, a4, a5, a6, a7], _ => exact ⟨a0, a1, a2, a3, a4, a5, a6, a7, rfl⟩
theorem Wds.cons {W : Nat} {a : Int} {l : List Int} (ha : Wd W a) (hl : Wds W l) : Wds W (a :: l) := fun i => match i with
  | 0 => ha
  | i + 1 => hl i
theorem Wds.nil (W : Nat) : Wds W [] := fun i => Wd.zero W
theorem rnds_len {W : Nat} {m : Int} {u0 u1 ws x : List Int} (h : x.length = 8) : ∀ t, (rndsLaw W m u0 u1 ws x t).length = 8
  | 0 => h
  | t + 1 => rfl
theorem rnds_wds {W : Nat} {m : Int} (hm : m = 2 ^ W) {u0 u1 ws x : List Int} (h : Wds W x) : ∀ t, Wds W (rndsLaw W m u0 u1 ws x t)
  | 0 => h
  | t + 1 => by
    have hx := rnds_wds hm h (u0 := u0) (u1 := u1) (ws := ws) t
    have hmod : ∀ y : Int, Wd W (y % m) := fun y => by rw [hm]; exact Wd.mod _ _
    exact .cons (hmod _) (.cons (hx 0) (.cons (hx 1) (.cons (hx 2) (.cons (hmod _) (.cons (hx 4) (.cons (hx 5) (.cons (hx 6) (.nil W))))))))
/-! width 32 -/
def FA45 (g g1 off i a : Nat) (k : Nat) : Fm := [(0, .var 0 g), (1, .slice 1 1 g1 off 64 none), (4, .var 2 0), (5, .int .i64 4), (6, .int .i64 i), (23, .int .i64 i), (35, .slice 1 1 g1 a 4 none), (36, .int .i64 4), (37, .int .i64 k)]
def TA45 (x0 x1 x2 x3 x4 x5 x6 x7 : Int) (zs : List Int) (g g1 e1 : Nat) (ow ow1 : Bool) (ws : List Int) : Tab := [some ⟨.agg [.int .i64 32, .int .i64 64, .int .i64 7, .int .i64 18, .int .i64 3, .int .i64 17, .int .i64 19, .int .i64 10, .int .i64 2, .int .i64 13, .int .i64 22, .int .i64 6, .int .i64 11, .int .i64 25, .int .u32 x0, .int .u32 x1, .int .u32 x2, .int .u32 x3, .int .u32 x4, .int .u32 x5, .int .u32 x6, .int .u32 x7], g, ow, 64⟩, some ⟨.ints .u8 zs, g1, ow1, e1⟩, some ⟨.ints .u32 ws, 0, true, 77⟩]
theorem loopA45 {x0 x1 x2 x3 x4 x5 x6 x7 : Int} {zs : List Int} {g g1 e1 : Nat} {ow ow1 : Bool} {off i : Nat} (hi : i < 16) (hz : off + 64 ≤ zs.length) (hb : ∀ i, 0 ≤ zs.getD i 0 ∧ zs.getD i 0 < 256) :
    To eV32 204 3 (.block 2 (.loop (roundOf 2 f45))) (FA45 g g1 off i (off + 4 * i) 0) (TA45 x0 x1 x2 x3 x4 x5 x6 x7 zs g g1 e1 ow ow1 (arrLaw 4 zs off i 0)) .normal [(0, .var 0 g), (1, .slice 1 1 g1 off 64 none), (4, .var 2 0), (5, .int .i64 4), (23, .int .i64 i)] (TA45 x0 x1 x2 x3 x4 x5 x6 x7 zs g g1 e1 ow ow1 (arrLaw 4 zs off i 4)) := by
  refine To.rounds (FA45 g g1 off i (off + 4 * i)) (fun k => TA45 x0 x1 x2 x3 x4 x5 x6 x7 zs g g1 e1 ow ow1 (arrLaw 4 zs off i k)) 4 (fun k hk => ?_)
    (To.of (o := D45 i (4 : Nat) off (off + 4 * i) x0 x1 x2 x3 x4 x5 x6 x7 zs (arrLaw 4 zs off i 4) g g1 e1 ow ow1) eV32_ok hmS (Nat.le_refl 3) OrcOk.nil rfl (D45_ok (by simp [allP, Con.h])) D45_ex D45_fm D45_tab)
  have hl := arrLaw_len (n := 4) (bs := zs) (a := off) (k := k) hi
  have hw := wdLaw_rng hb (off + 4 * i) k
  have hq := hb (off + 4 * i + k)
  have hp : (256 : Int) ^ k * 256 ≤ 4294967296 := by
    have : ∀ k, k < 4 → (256 : Int) ^ k * 256 ≤ 4294967296 := by decide
    exact this k hk
  have hmul : 0 ≤ wdLaw zs (off + 4 * i) k * 256 ∧ wdLaw zs (off + 4 * i) k * 256 < 4294967296 := by
    generalize (256 : Int) ^ k = p at hp hw; omega
  have hmd : wdLaw zs (off + 4 * i) k * 256 % 4294967296 = wdLaw zs (off + 4 * i) k * 256 := Int.emod_eq_of_lt hmul.1 hmul.2
  refine To.of (o := C45 i k off (off + 4 * i) x0 x1 x2 x3 x4 x5 x6 x7 zs (arrLaw 4 zs off i k) g g1 e1 ow ow1) eV32_ok hmS (Nat.le_refl 3) OrcOk.nil rfl (C45_ok ?_) C45_ex (by rw [C45_fm]; rfl) ?_
  · simp only [addO_eq, Int.toNat_natCast, arrLaw_get, hmd]
    have n1 : nonneg .u32 (wdLaw zs (off + 4 * i) k * 256) := hmul
    have n2 : nonneg .u32 (zs.getD (off + 4 * i + k) 0) := ⟨hq.1, by have := hq.2; show _ < (4294967296 : Int); omega⟩
    simp only [allP, Con.h, hl, n1, n2, decide_eq_true_eq, eq_self, true_and, and_true]
    omega
  · rw [C45_tab]
    simp only [addO_eq, Int.toNat_natCast, arrLaw_get, hmd, arrLaw_set]
    rw [ior_add8 hw.1 hq]
    rfl
/-! width 64 -/
def FA51 (g g1 off i a : Nat) (k : Nat) : Fm := [(0, .var 0 g), (1, .slice 1 1 g1 off 128 none), (4, .var 2 0), (5, .int .i64 8), (6, .int .i64 i), (23, .int .i64 i), (35, .slice 1 1 g1 a 8 none), (36, .int .i64 8), (37, .int .i64 k)]
def TA51 (x0 x1 x2 x3 x4 x5 x6 x7 : Int) (zs : List Int) (g g1 e1 : Nat) (ow ow1 : Bool) (ws : List Int) : Tab := [some ⟨.agg [.int .i64 64, .int .i64 80, .int .i64 1, .int .i64 8, .int .i64 7, .int .i64 19, .int .i64 61, .int .i64 6, .int .i64 28, .int .i64 34, .int .i64 39, .int .i64 14, .int .i64 18, .int .i64 41, .int .u64 x0, .int .u64 x1, .int .u64 x2, .int .u64 x3, .int .u64 x4, .int .u64 x5, .int .u64 x6, .int .u64 x7], g, ow, 73⟩, some ⟨.ints .u8 zs, g1, ow1, e1⟩, some ⟨.ints .u64 ws, 0, true, 79⟩]
theorem loopA51 {x0 x1 x2 x3 x4 x5 x6 x7 : Int} {zs : List Int} {g g1 e1 : Nat} {ow ow1 : Bool} {off i : Nat} (hi : i < 16) (hz : off + 128 ≤ zs.length) (hb : ∀ i, 0 ≤ zs.getD i 0 ∧ zs.getD i 0 < 256) :
    To eV64 203 3 (.block 2 (.loop (roundOf 2 f51))) (FA51 g g1 off i (off + 8 * i) 0) (TA51 x0 x1 x2 x3 x4 x5 x6 x7 zs g g1 e1 ow ow1 (arrLaw 8 zs off i 0)) .normal [(0, .var 0 g), (1, .slice 1 1 g1 off 128 none), (4, .var 2 0), (5, .int .i64 8), (23, .int .i64 i)] (TA51 x0 x1 x2 x3 x4 x5 x6 x7 zs g g1 e1 ow ow1 (arrLaw 8 zs off i 8)) := by
  refine To.rounds (FA51 g g1 off i (off + 8 * i)) (fun k => TA51 x0 x1 x2 x3 x4 x5 x6 x7 zs g g1 e1 ow ow1 (arrLaw 8 zs off i k)) 8 (fun k hk => ?_)
    (To.of (o := D51 i (8 : Nat) off (off + 8 * i) x0 x1 x2 x3 x4 x5 x6 x7 zs (arrLaw 8 zs off i 8) g g1 e1 ow ow1) eV64_ok hmS (Nat.le_refl 3) OrcOk.nil rfl (D51_ok (by simp [allP, Con.h])) D51_ex D51_fm D51_tab)
  have hl := arrLaw_len (n := 8) (bs := zs) (a := off) (k := k) hi
  have hw := wdLaw_rng hb (off + 8 * i) k
  have hq := hb (off + 8 * i + k)
  have hp : (256 : Int) ^ k * 256 ≤ 18446744073709551616 := by
    have : ∀ k, k < 8 → (256 : Int) ^ k * 256 ≤ 18446744073709551616 := by decide
    exact this k hk
  have hmul : 0 ≤ wdLaw zs (off + 8 * i) k * 256 ∧ wdLaw zs (off + 8 * i) k * 256 < 18446744073709551616 := by
    generalize (256 : Int) ^ k = p at hp hw; omega
  have hmd : wdLaw zs (off + 8 * i) k * 256 % 18446744073709551616 = wdLaw zs (off + 8 * i) k * 256 := Int.emod_eq_of_lt hmul.1 hmul.2
  refine To.of (o := C51 i k off (off + 8 * i) x0 x1 x2 x3 x4 x5 x6 x7 zs (arrLaw 8 zs off i k) g g1 e1 ow ow1) eV64_ok hmS (Nat.le_refl 3) OrcOk.nil rfl (C51_ok ?_) C51_ex (by rw [C51_fm]; rfl) ?_
  · simp only [addO_eq, Int.toNat_natCast, arrLaw_get, hmd]
    have n1 : nonneg .u64 (wdLaw zs (off + 8 * i) k * 256) := hmul
    have n2 : nonneg .u64 (zs.getD (off + 8 * i + k) 0) := ⟨hq.1, by have := hq.2; show _ < (18446744073709551616 : Int); omega⟩
    simp only [allP, Con.h, hl, n1, n2, decide_eq_true_eq, eq_self, true_and, and_true]
    omega
  · rw [C51_tab]
    simp only [addO_eq, Int.toNat_natCast, arrLaw_get, hmd, arrLaw_set]
    rw [ior_add8 hw.1 hq]
    rfl
end Go.Abs
