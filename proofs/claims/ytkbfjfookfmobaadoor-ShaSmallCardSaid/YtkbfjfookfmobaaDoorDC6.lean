/- What functions of the given program come to, by the abstract machine: one text of a proof. -/
import Derived.Test.YtkbfjfookfmobaaDoorDC5
set_option linter.unusedVariables false
set_option linter.unusedSimpArgs false
set_option maxRecDepth 8000
set_option maxHeartbeats 2000000
namespace Go.Abs
open Go.Proofs Go.Proofs.Tryd
/-! ### the document's words of a block: the contract -/
def wdsLaw32 (zs : List Int) (off : Nat) : List Int := schLaw 32 4294967296 [7, 18, 3] [17, 19, 10] (wordsLaw 4 zs off 16) 48
noncomputable def sm56_32 : Summary := fun args T => match args, T with
  | [.agg [.int .i64 bb, .int .i64 bk, .int .i64 br, .slice 1 0 0 0 3 (some 3), .slice 1 1 0 0 3 (some 3), .slice 1 2 0 0 3 (some 3), .slice 1 3 0 0 3 (some 3)], .slice 1 4 g4 off b none], [some ⟨.ints .i64 a0, 0, false, 3⟩, some ⟨.ints .i64 a1, 0, false, 3⟩, some ⟨.ints .i64 a2, 0, false, 3⟩, some ⟨.ints .i64 a3, 0, false, 3⟩, some ⟨.ints .u8 zs, g4', ow, 5⟩] => ⟨[.rng 32 bb 32, .rng 64 bk 64, .rng 64 br 64, .p (zz32Law a0 a1 a2 a3), .eqN g4 g4', .eqN b 64, .leN (off + 64) zs.length, .p (BsLaw zs)], .slice 1 5 64 0 64 none,
      [some ⟨.ints .i64 a0, 0, false, 3⟩, some ⟨.ints .i64 a1, 0, false, 3⟩, some ⟨.ints .i64 a2, 0, false, 3⟩, some ⟨.ints .i64 a3, 0, false, 3⟩, some ⟨.ints .u8 zs, g4', ow, 5⟩, some ⟨.ints .u64 (schLaw 32 4294967296 [7, 18, 3] [17, 19, 10] (wordsLaw 4 zs off 16) 48), 64, true, 56⟩]⟩
  | _, _ => fail
theorem words32_wds {zs : List Int} {off : Nat} (hb : BsLaw zs) : Wds 32 (wordsLaw 4 zs off 16) := by
  intro i
  have h := arr_wds (W := 32) (n := 4) (by decide) hb (off := off) i
  rcases Nat.lt_or_ge i 16 with hi | hi
  · rw [arrLaw_end, getD_left (by rw [wordsLaw_len]; exact hi)] at h; exact h
  · rw [List.getD_eq_getElem?_getD, List.getElem?_eq_none (by rw [wordsLaw_len]; exact hi)]; exact Wd.zero _
theorem sm56_32_ok : SmOk prog glS 56 sm56_32 := by
  intro args T hc
  unfold sm56_32 at hc ⊢
  split at hc
  · rename_i bb bk br g4 off b a0 a1 a2 a3 zs g4' ow
    obtain ⟨z1, z2, z3, z4, h1, h2, h3, h4, _⟩ := hc
    simp only [Con.h] at z1 z2 z3 z4 h1 h2 h3 h4
    obtain rfl : bb = 32 := by omega
    obtain rfl : bk = 64 := by omega
    obtain rfl : br = 64 := by omega
    obtain ⟨z4, z5, z6, z7⟩ := z4
    subst z4 z5 z6 z7
    subst h1 h2
    refine small_ofG (R := R56_32 off zs g4 ow) (keep := [0, 1, 2, 3, 4, 6]) eR32_ok hmS (f := 56) (fn := f56) (by kernel_rfl) (by kernel_rfl) orc56_32_ok rfl (R56_32_ok ?_) R56_32_val R56_32_tab
    have hz' := zz32
    have hw : WdsLaw 32 (wordsLaw 4 zs off 16) := words32_wds h4
    simp only [allP, Con.h, hz', hw, h3, h4, eq_self, true_and, and_true]
  · exact absurd hc nofail
noncomputable def S56_32 : Summary := callR sm56_32 []
theorem S56_32_ok : SumOk prog glS 56 S56_32 := callR_ok sm56_32_ok []
noncomputable def eT32 : Env := eS0 [(57, S57_32), (58, S58_32), (56, S56_32)]
theorem eT32_ok : EnvOk eT32 := envOf_ok tysS_ok (SumsOk.cons (fn := f57) S57_32_ok (by kernel_rfl) (by kernel_rfl) (by kernel_rfl) (SumsOk.cons (fn := f58) S58_32_ok (by kernel_rfl) (by kernel_rfl) (by kernel_rfl) (SumsOk.cons (fn := f56) S56_32_ok (by kernel_rfl) (by kernel_rfl) (by kernel_rfl) trivial)))
def wdsLaw64 (zs : List Int) (off : Nat) : List Int := schLaw 64 18446744073709551616 [1, 8, 7] [19, 61, 6] (wordsLaw 8 zs off 16) 64
noncomputable def sm56_64 : Summary := fun args T => match args, T with
  | [.agg [.int .i64 bb, .int .i64 bk, .int .i64 br, .slice 1 0 0 0 3 (some 3), .slice 1 1 0 0 3 (some 3), .slice 1 2 0 0 3 (some 3), .slice 1 3 0 0 3 (some 3)], .slice 1 4 g4 off b none], [some ⟨.ints .i64 a0, 0, false, 3⟩, some ⟨.ints .i64 a1, 0, false, 3⟩, some ⟨.ints .i64 a2, 0, false, 3⟩, some ⟨.ints .i64 a3, 0, false, 3⟩, some ⟨.ints .u8 zs, g4', ow, 5⟩] => ⟨[.rng 64 bb 64, .rng 128 bk 128, .rng 80 br 80, .p (zz64Law a0 a1 a2 a3), .eqN g4 g4', .eqN b 128, .leN (off + 128) zs.length, .p (BsLaw zs)], .slice 1 5 80 0 80 none,
      [some ⟨.ints .i64 a0, 0, false, 3⟩, some ⟨.ints .i64 a1, 0, false, 3⟩, some ⟨.ints .i64 a2, 0, false, 3⟩, some ⟨.ints .i64 a3, 0, false, 3⟩, some ⟨.ints .u8 zs, g4', ow, 5⟩, some ⟨.ints .u64 (schLaw 64 18446744073709551616 [1, 8, 7] [19, 61, 6] (wordsLaw 8 zs off 16) 64), 80, true, 56⟩]⟩
  | _, _ => fail
theorem words64_wds {zs : List Int} {off : Nat} (hb : BsLaw zs) : Wds 64 (wordsLaw 8 zs off 16) := by
  intro i
  have h := arr_wds (W := 64) (n := 8) (by decide) hb (off := off) i
  rcases Nat.lt_or_ge i 16 with hi | hi
  · rw [arrLaw_end, getD_left (by rw [wordsLaw_len]; exact hi)] at h; exact h
  · rw [List.getD_eq_getElem?_getD, List.getElem?_eq_none (by rw [wordsLaw_len]; exact hi)]; exact Wd.zero _
theorem sm56_64_ok : SmOk prog glS 56 sm56_64 := by
  intro args T hc
  unfold sm56_64 at hc ⊢
  split at hc
  · rename_i bb bk br g4 off b a0 a1 a2 a3 zs g4' ow
    obtain ⟨z1, z2, z3, z4, h1, h2, h3, h4, _⟩ := hc
    simp only [Con.h] at z1 z2 z3 z4 h1 h2 h3 h4
    obtain rfl : bb = 64 := by omega
    obtain rfl : bk = 128 := by omega
    obtain rfl : br = 80 := by omega
    obtain ⟨z4, z5, z6, z7⟩ := z4
    subst z4 z5 z6 z7
    subst h1 h2
    refine small_ofG (R := R56_64 off zs g4 ow) (keep := [0, 1, 2, 3, 4, 6]) eR64_ok hmS (f := 56) (fn := f56) (by kernel_rfl) (by kernel_rfl) orc56_64_ok rfl (R56_64_ok ?_) R56_64_val R56_64_tab
    have hz' := zz64
    have hw : WdsLaw 64 (wordsLaw 8 zs off 16) := words64_wds h4
    simp only [allP, Con.h, hz', hw, h3, h4, eq_self, true_and, and_true]
  · exact absurd hc nofail
noncomputable def S56_64 : Summary := callR sm56_64 []
theorem S56_64_ok : SumOk prog glS 56 S56_64 := callR_ok sm56_64_ok []
noncomputable def eT64 : Env := eS0 [(57, S57_64), (58, S58_64), (56, S56_64)]
theorem eT64_ok : EnvOk eT64 := envOf_ok tysS_ok (SumsOk.cons (fn := f57) S57_64_ok (by kernel_rfl) (by kernel_rfl) (by kernel_rfl) (SumsOk.cons (fn := f58) S58_64_ok (by kernel_rfl) (by kernel_rfl) (by kernel_rfl) (SumsOk.cons (fn := f56) S56_64_ok (by kernel_rfl) (by kernel_rfl) (by kernel_rfl) trivial)))
end Go.Abs
