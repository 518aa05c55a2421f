/- What functions of the given program come to, by the abstract machine: one text of a proof. -/
import Derived.Test.YtkbfjfookfmobaaDoorDC1
set_option linter.unusedVariables false
set_option linter.unusedSimpArgs false
set_option maxRecDepth 8000
namespace Go.Abs
open Go.Proofs Go.Proofs.Tryd
/-! ### the document's words: contracts -/
def selLow (i : Nat) (a b : List Int) : List Int := match i with | 0 => a | _ => b
def lowIxLaw (i : Nat) : Prop := i = 0 ∨ i = 1
def highIxLaw (i : Nat) : Prop := i = 2 ∨ i = 3
def selHigh (i : Nat) (a b : List Int) : List Int := match i with | 2 => a | _ => b
noncomputable def sm63_32 : Summary := fun args T => match args, T with
  | [.agg [.int .i64 bb, .int .i64 bk, .int .i64 br, .slice 1 0 0 0 3 (some 3), .slice 1 1 0 0 3 (some 3), .slice 1 2 0 0 3 (some 3), .slice 1 3 0 0 3 (some 3)], .int .u64 x, .slice 1 i 0 0 3 (some 3)], [some ⟨.ints .i64 a0, 0, false, 3⟩, some ⟨.ints .i64 a1, 0, false, 3⟩, some ⟨.ints .i64 a2, 0, false, 3⟩, some ⟨.ints .i64 a3, 0, false, 3⟩] => ⟨[.rng 32 bb 32, .rng 64 bk 64, .rng 64 br 64, .p (zz32Law a0 a1 a2 a3), .p (lowIxLaw i), .p (Wd 32 x)], .int .u64 (lowLaw 32 (selLow i [7, 18, 3] [17, 19, 10]) x), [some ⟨.ints .i64 a0, 0, false, 3⟩, some ⟨.ints .i64 a1, 0, false, 3⟩, some ⟨.ints .i64 a2, 0, false, 3⟩, some ⟨.ints .i64 a3, 0, false, 3⟩]⟩
  | _, _ => fail
theorem sm63_32_ok : SmOk prog glS 63 sm63_32 := by
  intro args T hc
  unfold sm63_32 at hc ⊢
  split at hc
  · rename_i bb bk br x i a0 a1 a2 a3
    obtain ⟨z1, z2, z3, z4, hi, hx, _⟩ := hc
    simp only [Con.h] at z1 z2 z3 z4 hi hx
    obtain rfl : bb = 32 := by omega
    obtain rfl : bk = 64 := by omega
    obtain rfl : br = 64 := by omega
    obtain ⟨z4, z5, z6, z7⟩ := z4
    subst z4 z5 z6 z7
    have hu : Wd 64 x := hx.up
    have hd : ∀ d : Int, 0 < d → Wd 64 (x / d) := fun d h => hu.divk h
    have hm : ∀ y : Int, Wd 64 (y % 18446744073709551616) := fun y => Wd.mod 64 y
    rcases hi with rfl | rfl
    · refine small_drop (small_of (R := R63_32a x) eQ32_ok hmS (f := 63) (fn := f63) (by kernel_rfl) (by kernel_rfl) FnOrc.nil rfl (R63_32a_ok ?_) ?_ R63_32a_tab)
      · simp only [allP, Con.h, nn_64, eq_self, true_and, and_true]
        repeat' with_reducible apply And.intro
        all_goals repeat' (first | exact hd _ (by decide) | exact hm _ | apply Wd.ixor | apply Wd.ior | apply Wd.iand)
      · rw [R63_32a_val, rot32 hx 7 128 33554432 (by decide) (by decide), rot32 hx 18 262144 16384 (by decide) (by decide)]
        rfl
    · refine small_drop (small_of (R := R63_32b x) eQ32_ok hmS (f := 63) (fn := f63) (by kernel_rfl) (by kernel_rfl) FnOrc.nil rfl (R63_32b_ok ?_) ?_ R63_32b_tab)
      · simp only [allP, Con.h, nn_64, eq_self, true_and, and_true]
        repeat' with_reducible apply And.intro
        all_goals repeat' (first | exact hd _ (by decide) | exact hm _ | apply Wd.ixor | apply Wd.ior | apply Wd.iand)
      · rw [R63_32b_val, rot32 hx 17 131072 32768 (by decide) (by decide), rot32 hx 19 524288 8192 (by decide) (by decide)]
        rfl
  · exact absurd hc nofail
noncomputable def S63_32 : Summary := callR sm63_32 []
theorem S63_32_ok : SumOk prog glS 63 S63_32 := callR_ok sm63_32_ok []
noncomputable def sm58_32 : Summary := fun args T => match args, T with
  | [.agg [.int .i64 bb, .int .i64 bk, .int .i64 br, .slice 1 0 0 0 3 (some 3), .slice 1 1 0 0 3 (some 3), .slice 1 2 0 0 3 (some 3), .slice 1 3 0 0 3 (some 3)], .int .u64 x, .slice 1 i 0 0 3 (some 3)], [some ⟨.ints .i64 a0, 0, false, 3⟩, some ⟨.ints .i64 a1, 0, false, 3⟩, some ⟨.ints .i64 a2, 0, false, 3⟩, some ⟨.ints .i64 a3, 0, false, 3⟩] => ⟨[.rng 32 bb 32, .rng 64 bk 64, .rng 64 br 64, .p (zz32Law a0 a1 a2 a3), .p (highIxLaw i), .p (Wd 32 x)], .int .u64 (highLaw 32 (selHigh i [2, 13, 22] [6, 11, 25]) x), [some ⟨.ints .i64 a0, 0, false, 3⟩, some ⟨.ints .i64 a1, 0, false, 3⟩, some ⟨.ints .i64 a2, 0, false, 3⟩, some ⟨.ints .i64 a3, 0, false, 3⟩]⟩
  | _, _ => fail
theorem sm58_32_ok : SmOk prog glS 58 sm58_32 := by
  intro args T hc
  unfold sm58_32 at hc ⊢
  split at hc
  · rename_i bb bk br x i a0 a1 a2 a3
    obtain ⟨z1, z2, z3, z4, hi, hx, _⟩ := hc
    simp only [Con.h] at z1 z2 z3 z4 hi hx
    obtain rfl : bb = 32 := by omega
    obtain rfl : bk = 64 := by omega
    obtain rfl : br = 64 := by omega
    obtain ⟨z4, z5, z6, z7⟩ := z4
    subst z4 z5 z6 z7
    have hu : Wd 64 x := hx.up
    have hd : ∀ d : Int, 0 < d → Wd 64 (x / d) := fun d h => hu.divk h
    have hm : ∀ y : Int, Wd 64 (y % 18446744073709551616) := fun y => Wd.mod 64 y
    rcases hi with rfl | rfl
    · refine small_drop (small_of (R := R58_32a x) eQ32_ok hmS (f := 58) (fn := f58) (by kernel_rfl) (by kernel_rfl) FnOrc.nil rfl (R58_32a_ok ?_) ?_ R58_32a_tab)
      · simp only [allP, Con.h, nn_64, eq_self, true_and, and_true]
        repeat' with_reducible apply And.intro
        all_goals repeat' (first | exact hd _ (by decide) | exact hm _ | apply Wd.ixor | apply Wd.ior | apply Wd.iand)
      · rw [R58_32a_val, rot32 hx 2 4 1073741824 (by decide) (by decide), rot32 hx 13 8192 524288 (by decide) (by decide), rot32 hx 22 4194304 1024 (by decide) (by decide)]
        rfl
    · refine small_drop (small_of (R := R58_32b x) eQ32_ok hmS (f := 58) (fn := f58) (by kernel_rfl) (by kernel_rfl) FnOrc.nil rfl (R58_32b_ok ?_) ?_ R58_32b_tab)
      · simp only [allP, Con.h, nn_64, eq_self, true_and, and_true]
        repeat' with_reducible apply And.intro
        all_goals repeat' (first | exact hd _ (by decide) | exact hm _ | apply Wd.ixor | apply Wd.ior | apply Wd.iand)
      · rw [R58_32b_val, rot32 hx 6 64 67108864 (by decide) (by decide), rot32 hx 11 2048 2097152 (by decide) (by decide), rot32 hx 25 33554432 128 (by decide) (by decide)]
        rfl
  · exact absurd hc nofail
noncomputable def S58_32 : Summary := callR sm58_32 []
theorem S58_32_ok : SumOk prog glS 58 S58_32 := callR_ok sm58_32_ok []
noncomputable def sm63_64 : Summary := fun args T => match args, T with
  | [.agg [.int .i64 bb, .int .i64 bk, .int .i64 br, .slice 1 0 0 0 3 (some 3), .slice 1 1 0 0 3 (some 3), .slice 1 2 0 0 3 (some 3), .slice 1 3 0 0 3 (some 3)], .int .u64 x, .slice 1 i 0 0 3 (some 3)], [some ⟨.ints .i64 a0, 0, false, 3⟩, some ⟨.ints .i64 a1, 0, false, 3⟩, some ⟨.ints .i64 a2, 0, false, 3⟩, some ⟨.ints .i64 a3, 0, false, 3⟩] => ⟨[.rng 64 bb 64, .rng 128 bk 128, .rng 80 br 80, .p (zz64Law a0 a1 a2 a3), .p (lowIxLaw i), .p (Wd 64 x)], .int .u64 (lowLaw 64 (selLow i [1, 8, 7] [19, 61, 6]) x), [some ⟨.ints .i64 a0, 0, false, 3⟩, some ⟨.ints .i64 a1, 0, false, 3⟩, some ⟨.ints .i64 a2, 0, false, 3⟩, some ⟨.ints .i64 a3, 0, false, 3⟩]⟩
  | _, _ => fail
theorem sm63_64_ok : SmOk prog glS 63 sm63_64 := by
  intro args T hc
  unfold sm63_64 at hc ⊢
  split at hc
  · rename_i bb bk br x i a0 a1 a2 a3
    obtain ⟨z1, z2, z3, z4, hi, hx, _⟩ := hc
    simp only [Con.h] at z1 z2 z3 z4 hi hx
    obtain rfl : bb = 64 := by omega
    obtain rfl : bk = 128 := by omega
    obtain rfl : br = 80 := by omega
    obtain ⟨z4, z5, z6, z7⟩ := z4
    subst z4 z5 z6 z7
    have hu : Wd 64 x := hx
    have hd : ∀ d : Int, 0 < d → Wd 64 (x / d) := fun d h => hu.divk h
    have hm : ∀ y : Int, Wd 64 (y % 18446744073709551616) := fun y => Wd.mod 64 y
    rcases hi with rfl | rfl
    · refine small_drop (small_of (R := R63_64a x) eQ64_ok hmS (f := 63) (fn := f63) (by kernel_rfl) (by kernel_rfl) FnOrc.nil rfl (R63_64a_ok ?_) ?_ R63_64a_tab)
      · simp only [allP, Con.h, nn_64, eq_self, true_and, and_true]
        repeat' with_reducible apply And.intro
        all_goals repeat' (first | exact hd _ (by decide) | exact hm _ | apply Wd.ixor | apply Wd.ior | apply Wd.iand)
      · rw [R63_64a_val, rot64 1 2 9223372036854775808 (by decide) (by decide), rot64 8 256 72057594037927936 (by decide) (by decide)]
        rfl
    · refine small_drop (small_of (R := R63_64b x) eQ64_ok hmS (f := 63) (fn := f63) (by kernel_rfl) (by kernel_rfl) FnOrc.nil rfl (R63_64b_ok ?_) ?_ R63_64b_tab)
      · simp only [allP, Con.h, nn_64, eq_self, true_and, and_true]
        repeat' with_reducible apply And.intro
        all_goals repeat' (first | exact hd _ (by decide) | exact hm _ | apply Wd.ixor | apply Wd.ior | apply Wd.iand)
      · rw [R63_64b_val, rot64 19 524288 35184372088832 (by decide) (by decide), rot64 61 2305843009213693952 8 (by decide) (by decide)]
        rfl
  · exact absurd hc nofail
noncomputable def S63_64 : Summary := callR sm63_64 []
theorem S63_64_ok : SumOk prog glS 63 S63_64 := callR_ok sm63_64_ok []
noncomputable def sm58_64 : Summary := fun args T => match args, T with
  | [.agg [.int .i64 bb, .int .i64 bk, .int .i64 br, .slice 1 0 0 0 3 (some 3), .slice 1 1 0 0 3 (some 3), .slice 1 2 0 0 3 (some 3), .slice 1 3 0 0 3 (some 3)], .int .u64 x, .slice 1 i 0 0 3 (some 3)], [some ⟨.ints .i64 a0, 0, false, 3⟩, some ⟨.ints .i64 a1, 0, false, 3⟩, some ⟨.ints .i64 a2, 0, false, 3⟩, some ⟨.ints .i64 a3, 0, false, 3⟩] => ⟨[.rng 64 bb 64, .rng 128 bk 128, .rng 80 br 80, .p (zz64Law a0 a1 a2 a3), .p (highIxLaw i), .p (Wd 64 x)], .int .u64 (highLaw 64 (selHigh i [28, 34, 39] [14, 18, 41]) x), [some ⟨.ints .i64 a0, 0, false, 3⟩, some ⟨.ints .i64 a1, 0, false, 3⟩, some ⟨.ints .i64 a2, 0, false, 3⟩, some ⟨.ints .i64 a3, 0, false, 3⟩]⟩
  | _, _ => fail
theorem sm58_64_ok : SmOk prog glS 58 sm58_64 := by
  intro args T hc
  unfold sm58_64 at hc ⊢
  split at hc
  · rename_i bb bk br x i a0 a1 a2 a3
    obtain ⟨z1, z2, z3, z4, hi, hx, _⟩ := hc
    simp only [Con.h] at z1 z2 z3 z4 hi hx
    obtain rfl : bb = 64 := by omega
    obtain rfl : bk = 128 := by omega
    obtain rfl : br = 80 := by omega
    obtain ⟨z4, z5, z6, z7⟩ := z4
    subst z4 z5 z6 z7
    have hu : Wd 64 x := hx
    have hd : ∀ d : Int, 0 < d → Wd 64 (x / d) := fun d h => hu.divk h
    have hm : ∀ y : Int, Wd 64 (y % 18446744073709551616) := fun y => Wd.mod 64 y
    rcases hi with rfl | rfl
    · refine small_drop (small_of (R := R58_64a x) eQ64_ok hmS (f := 58) (fn := f58) (by kernel_rfl) (by kernel_rfl) FnOrc.nil rfl (R58_64a_ok ?_) ?_ R58_64a_tab)
      · simp only [allP, Con.h, nn_64, eq_self, true_and, and_true]
        repeat' with_reducible apply And.intro
        all_goals repeat' (first | exact hd _ (by decide) | exact hm _ | apply Wd.ixor | apply Wd.ior | apply Wd.iand)
      · rw [R58_64a_val, rot64 28 268435456 68719476736 (by decide) (by decide), rot64 34 17179869184 1073741824 (by decide) (by decide), rot64 39 549755813888 33554432 (by decide) (by decide)]
        rfl
    · refine small_drop (small_of (R := R58_64b x) eQ64_ok hmS (f := 58) (fn := f58) (by kernel_rfl) (by kernel_rfl) FnOrc.nil rfl (R58_64b_ok ?_) ?_ R58_64b_tab)
      · simp only [allP, Con.h, nn_64, eq_self, true_and, and_true]
        repeat' with_reducible apply And.intro
        all_goals repeat' (first | exact hd _ (by decide) | exact hm _ | apply Wd.ixor | apply Wd.ior | apply Wd.iand)
      · rw [R58_64b_val, rot64 14 16384 1125899906842624 (by decide) (by decide), rot64 18 262144 70368744177664 (by decide) (by decide), rot64 41 2199023255552 8388608 (by decide) (by decide)]
        rfl
  · exact absurd hc nofail
noncomputable def S58_64 : Summary := callR sm58_64 []
theorem S58_64_ok : SumOk prog glS 58 S58_64 := callR_ok sm58_64_ok []
end Go.Abs
