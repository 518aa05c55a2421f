/- What functions of the given program come to, by the abstract machine: one text of a proof. -/
import Derived.Test.YtkbfjfookfmobaaDoorDA5
set_option linter.unusedVariables false
set_option linter.unusedSimpArgs false
set_option maxRecDepth 8000
namespace Go.Abs
open Go.Proofs Go.Proofs.Tryd
/-! ### a block's contract -/
def blkAtLaw (W n : Nat) (m : Int) (l0 l1 u0 u1 : List Int) (R : Nat) (zs : List Int) (off : Nat) (xs : List Int) (j : Nat) : Int :=
  (xs.getD j 0 + rndAtLaw W m u0 u1 (wsLaw W m l0 l1 R (arrLaw n zs off 15 n)) xs R j) % m
theorem arr_wds {W n : Nat} (hn : (256 : Int) ^ n ≤ 2 ^ W) {zs : List Int} (hb : BsLaw zs) {off : Nat} : Wds W (arrLaw n zs off 15 n) := by
  rw [arrLaw_end]
  refine Wds.append (fun i => ?_) (Wds.zeros W 64)
  unfold wordsLaw
  rw [List.getD_eq_getElem?_getD, List.getElem?_map]
  cases h : (List.range 16)[i]? with
  | none => exact Wd.zero W
  | some j =>
    have := wdLaw_rng hb (off + n * j) n
    exact ⟨this.1, Int.lt_of_lt_of_le this.2 hn⟩
theorem arr_tail {n : Nat} {zs : List Int} {off : Nat} : tailLaw (arrLaw n zs off 15 n) := by
  rw [arrLaw_end]
  refine ⟨by simp [wordsLaw_len], ?_⟩
  rw [List.drop_append, List.drop_of_length_le (by rw [wordsLaw_len]; exact Nat.le_refl _), wordsLaw_len]
  rfl
theorem ws_wds {W : Nat} {m : Int} (hm : m = 2 ^ W) {l0 l1 : List Int} {R : Nat} {ws : List Int} (h : Wds W ws) : Wds W (wsLaw W m l0 l1 R ws) := by
  refine Wds.append (schLaw_wds hm (fun i => ?_) _) (Wds.zeros W _)
  rw [List.getD_eq_getElem?_getD, List.getElem?_take]
  split
  · have := h i; rwa [List.getD_eq_getElem?_getD] at this
  · exact Wd.zero W
def bkLaw32 (zs : List Int) (off : Nat) (xs : List Int) (j : Nat) : Int := blkAtLaw 32 4 4294967296 [7, 18, 3] [17, 19, 10] [2, 13, 22] [6, 11, 25] 64 zs off xs j
theorem bkLaw32_wd (zs : List Int) (off : Nat) (xs : List Int) (j : Nat) : Wd 32 (bkLaw32 zs off xs j) := by
  unfold bkLaw32 blkAtLaw
  rw [show (4294967296 : Int) = 2 ^ 32 by decide]
  exact Wd.mod _ _
def sm45 : Summary := fun args T => match args, T with
  | [.var 0 g, .slice 1 1 g1 off 64 none], [some ⟨.agg [.int .i64 32, .int .i64 64, .int .i64 7, .int .i64 18, .int .i64 3, .int .i64 17, .int .i64 19, .int .i64 10, .int .i64 2, .int .i64 13, .int .i64 22, .int .i64 6, .int .i64 11, .int .i64 25, .int .u32 x0, .int .u32 x1, .int .u32 x2, .int .u32 x3, .int .u32 x4, .int .u32 x5, .int .u32 x6, .int .u32 x7], g', true, 64⟩, some ⟨.ints .u8 zs, g1', ow1, 5⟩] => ⟨[.eqN g g', .eqN g1 g1', .leN (off + 64) zs.length, .p (BsLaw zs), .p (WdsLaw 32 [x0, x1, x2, x3, x4, x5, x6, x7])], .tuple [],
      [some ⟨.agg [.int .i64 32, .int .i64 64, .int .i64 7, .int .i64 18, .int .i64 3, .int .i64 17, .int .i64 19, .int .i64 10, .int .i64 2, .int .i64 13, .int .i64 22, .int .i64 6, .int .i64 11, .int .i64 25, .int .u32 (bkLaw32 zs off [x0, x1, x2, x3, x4, x5, x6, x7] 0), .int .u32 (bkLaw32 zs off [x0, x1, x2, x3, x4, x5, x6, x7] 1), .int .u32 (bkLaw32 zs off [x0, x1, x2, x3, x4, x5, x6, x7] 2), .int .u32 (bkLaw32 zs off [x0, x1, x2, x3, x4, x5, x6, x7] 3), .int .u32 (bkLaw32 zs off [x0, x1, x2, x3, x4, x5, x6, x7] 4), .int .u32 (bkLaw32 zs off [x0, x1, x2, x3, x4, x5, x6, x7] 5), .int .u32 (bkLaw32 zs off [x0, x1, x2, x3, x4, x5, x6, x7] 6), .int .u32 (bkLaw32 zs off [x0, x1, x2, x3, x4, x5, x6, x7] 7)], g', true, 64⟩, some ⟨.ints .u8 zs, g1', ow1, 5⟩]⟩
  | _, _ => fail
theorem sm45_ok : SmOk prog glS 45 sm45 := by
  intro args T hc
  unfold sm45 at hc ⊢
  split at hc
  · rename_i g g1 off x0 x1 x2 x3 x4 x5 x6 x7 g' zs g1' ow1
    obtain ⟨h1, h2, h3, h4, h5, _⟩ := hc
    simp only [Con.h] at h1 h2 h3 h4 h5
    subst h1 h2
    refine small_drop (small_of (R := R45 off x0 x1 x2 x3 x4 x5 x6 x7 zs g g1 5 ow1) eV32_ok hmS (f := 45) (fn := f45) (by kernel_rfl) (by kernel_rfl) orc45_ok rfl (R45_ok ?_) R45_val R45_tab)
    have q1 : WdsLaw 32 (arrLaw 4 zs off 15 4) := arr_wds (by decide) h4
    have q2 : WdsLaw 32 (wsLaw 32 4294967296 [7, 18, 3] [17, 19, 10] 64 (arrLaw 4 zs off 15 4)) := ws_wds (by decide) q1
    have q3 : tailLaw (arrLaw 4 zs off 15 4) := arr_tail
    have a0 : arrLaw 4 zs off 0 4 = arrLaw 4 zs off 1 0 := arrLaw_next (by omega)
    have a1 : arrLaw 4 zs off 1 4 = arrLaw 4 zs off 2 0 := arrLaw_next (by omega)
    have a2 : arrLaw 4 zs off 2 4 = arrLaw 4 zs off 3 0 := arrLaw_next (by omega)
    have a3 : arrLaw 4 zs off 3 4 = arrLaw 4 zs off 4 0 := arrLaw_next (by omega)
    have a4 : arrLaw 4 zs off 4 4 = arrLaw 4 zs off 5 0 := arrLaw_next (by omega)
    have a5 : arrLaw 4 zs off 5 4 = arrLaw 4 zs off 6 0 := arrLaw_next (by omega)
    have a6 : arrLaw 4 zs off 6 4 = arrLaw 4 zs off 7 0 := arrLaw_next (by omega)
    have a7 : arrLaw 4 zs off 7 4 = arrLaw 4 zs off 8 0 := arrLaw_next (by omega)
    have a8 : arrLaw 4 zs off 8 4 = arrLaw 4 zs off 9 0 := arrLaw_next (by omega)
    have a9 : arrLaw 4 zs off 9 4 = arrLaw 4 zs off 10 0 := arrLaw_next (by omega)
    have a10 : arrLaw 4 zs off 10 4 = arrLaw 4 zs off 11 0 := arrLaw_next (by omega)
    have a11 : arrLaw 4 zs off 11 4 = arrLaw 4 zs off 12 0 := arrLaw_next (by omega)
    have a12 : arrLaw 4 zs off 12 4 = arrLaw 4 zs off 13 0 := arrLaw_next (by omega)
    have a13 : arrLaw 4 zs off 13 4 = arrLaw 4 zs off 14 0 := arrLaw_next (by omega)
    have a14 : arrLaw 4 zs off 14 4 = arrLaw 4 zs off 15 0 := arrLaw_next (by omega)
    simp only [allP, Con.h, q1, q2, q3, h4, h5, a0, a1, a2, a3, a4, a5, a6, a7, a8, a9, a10, a11, a12, a13, a14, addO_eq, eq_self, true_and, and_true]
    have q0 : List.replicate 80 (0 : Int) = arrLaw 4 zs off 0 0 := rfl
    repeat' with_reducible apply And.intro
    all_goals first | omega | exact q0
  · exact absurd hc nofail
def S45 : Summary := callR sm45 [true, false]
theorem S45_ok : SumOk prog glS 45 S45 := callR_ok sm45_ok [true, false]
def bkLaw64 (zs : List Int) (off : Nat) (xs : List Int) (j : Nat) : Int := blkAtLaw 64 8 18446744073709551616 [1, 8, 7] [19, 61, 6] [28, 34, 39] [14, 18, 41] 80 zs off xs j
theorem bkLaw64_wd (zs : List Int) (off : Nat) (xs : List Int) (j : Nat) : Wd 64 (bkLaw64 zs off xs j) := by
  unfold bkLaw64 blkAtLaw
  rw [show (18446744073709551616 : Int) = 2 ^ 64 by decide]
  exact Wd.mod _ _
def sm51 : Summary := fun args T => match args, T with
  | [.var 0 g, .slice 1 1 g1 off 128 none], [some ⟨.agg [.int .i64 64, .int .i64 80, .int .i64 1, .int .i64 8, .int .i64 7, .int .i64 19, .int .i64 61, .int .i64 6, .int .i64 28, .int .i64 34, .int .i64 39, .int .i64 14, .int .i64 18, .int .i64 41, .int .u64 x0, .int .u64 x1, .int .u64 x2, .int .u64 x3, .int .u64 x4, .int .u64 x5, .int .u64 x6, .int .u64 x7], g', true, 73⟩, some ⟨.ints .u8 zs, g1', ow1, 5⟩] => ⟨[.eqN g g', .eqN g1 g1', .leN (off + 128) zs.length, .p (BsLaw zs), .p (WdsLaw 64 [x0, x1, x2, x3, x4, x5, x6, x7])], .tuple [],
      [some ⟨.agg [.int .i64 64, .int .i64 80, .int .i64 1, .int .i64 8, .int .i64 7, .int .i64 19, .int .i64 61, .int .i64 6, .int .i64 28, .int .i64 34, .int .i64 39, .int .i64 14, .int .i64 18, .int .i64 41, .int .u64 (bkLaw64 zs off [x0, x1, x2, x3, x4, x5, x6, x7] 0), .int .u64 (bkLaw64 zs off [x0, x1, x2, x3, x4, x5, x6, x7] 1), .int .u64 (bkLaw64 zs off [x0, x1, x2, x3, x4, x5, x6, x7] 2), .int .u64 (bkLaw64 zs off [x0, x1, x2, x3, x4, x5, x6, x7] 3), .int .u64 (bkLaw64 zs off [x0, x1, x2, x3, x4, x5, x6, x7] 4), .int .u64 (bkLaw64 zs off [x0, x1, x2, x3, x4, x5, x6, x7] 5), .int .u64 (bkLaw64 zs off [x0, x1, x2, x3, x4, x5, x6, x7] 6), .int .u64 (bkLaw64 zs off [x0, x1, x2, x3, x4, x5, x6, x7] 7)], g', true, 73⟩, some ⟨.ints .u8 zs, g1', ow1, 5⟩]⟩
  | _, _ => fail
theorem sm51_ok : SmOk prog glS 51 sm51 := by
  intro args T hc
  unfold sm51 at hc ⊢
  split at hc
  · rename_i g g1 off x0 x1 x2 x3 x4 x5 x6 x7 g' zs g1' ow1
    obtain ⟨h1, h2, h3, h4, h5, _⟩ := hc
    simp only [Con.h] at h1 h2 h3 h4 h5
    subst h1 h2
    refine small_drop (small_of (R := R51 off x0 x1 x2 x3 x4 x5 x6 x7 zs g g1 5 ow1) eV64_ok hmS (f := 51) (fn := f51) (by kernel_rfl) (by kernel_rfl) orc51_ok rfl (R51_ok ?_) R51_val R51_tab)
    have q1 : WdsLaw 64 (arrLaw 8 zs off 15 8) := arr_wds (by decide) h4
    have q2 : WdsLaw 64 (wsLaw 64 18446744073709551616 [1, 8, 7] [19, 61, 6] 80 (arrLaw 8 zs off 15 8)) := ws_wds (by decide) q1
    have q3 : tailLaw (arrLaw 8 zs off 15 8) := arr_tail
    have a0 : arrLaw 8 zs off 0 8 = arrLaw 8 zs off 1 0 := arrLaw_next (by omega)
    have a1 : arrLaw 8 zs off 1 8 = arrLaw 8 zs off 2 0 := arrLaw_next (by omega)
    have a2 : arrLaw 8 zs off 2 8 = arrLaw 8 zs off 3 0 := arrLaw_next (by omega)
    have a3 : arrLaw 8 zs off 3 8 = arrLaw 8 zs off 4 0 := arrLaw_next (by omega)
    have a4 : arrLaw 8 zs off 4 8 = arrLaw 8 zs off 5 0 := arrLaw_next (by omega)
    have a5 : arrLaw 8 zs off 5 8 = arrLaw 8 zs off 6 0 := arrLaw_next (by omega)
    have a6 : arrLaw 8 zs off 6 8 = arrLaw 8 zs off 7 0 := arrLaw_next (by omega)
    have a7 : arrLaw 8 zs off 7 8 = arrLaw 8 zs off 8 0 := arrLaw_next (by omega)
    have a8 : arrLaw 8 zs off 8 8 = arrLaw 8 zs off 9 0 := arrLaw_next (by omega)
    have a9 : arrLaw 8 zs off 9 8 = arrLaw 8 zs off 10 0 := arrLaw_next (by omega)
    have a10 : arrLaw 8 zs off 10 8 = arrLaw 8 zs off 11 0 := arrLaw_next (by omega)
    have a11 : arrLaw 8 zs off 11 8 = arrLaw 8 zs off 12 0 := arrLaw_next (by omega)
    have a12 : arrLaw 8 zs off 12 8 = arrLaw 8 zs off 13 0 := arrLaw_next (by omega)
    have a13 : arrLaw 8 zs off 13 8 = arrLaw 8 zs off 14 0 := arrLaw_next (by omega)
    have a14 : arrLaw 8 zs off 14 8 = arrLaw 8 zs off 15 0 := arrLaw_next (by omega)
    simp only [allP, Con.h, q1, q2, q3, h4, h5, a0, a1, a2, a3, a4, a5, a6, a7, a8, a9, a10, a11, a12, a13, a14, addO_eq, eq_self, true_and, and_true]
    have q0 : List.replicate 80 (0 : Int) = arrLaw 8 zs off 0 0 := rfl
    repeat' with_reducible apply And.intro
    all_goals first | omega | exact q0
  · exact absurd hc nofail
def S51 : Summary := callR sm51 [true, false]
theorem S51_ok : SumOk prog glS 51 S51 := callR_ok sm51_ok [true, false]
end Go.Abs
