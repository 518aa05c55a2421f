/- What functions of the given program come to, by the abstract machine: one text of a proof. -/
import Derived.Test.YtkbfjfookfmobaaDoorDD2
set_option linter.unusedVariables false
set_option linter.unusedSimpArgs false
set_option maxRecDepth 8000
set_option maxHeartbeats 4000000
namespace Go.Abs
open Go.Proofs Go.Proofs.Tryd
/-! ### the document's padding: contract; pieces of the sum -/
noncomputable def sm48_32c (args : List AVal) (T : Tab) (zs : List Int) (g4 : Nat) (off : Nat) (n : Nat) (cp : Option Nat) : Res := ⟨[.tab T [some ⟨.ints .i64 [7, 18, 3], 0, false, 3⟩, some ⟨.ints .i64 [17, 19, 10], 0, false, 3⟩, some ⟨.ints .i64 [2, 13, 22], 0, false, 3⟩, some ⟨.ints .i64 [6, 11, 25], 0, false, 3⟩, some ⟨.ints .u8 zs, g4, false, 5⟩], .val (.tuple args) (.tuple [.agg [.int .i64 32, .int .i64 64, .int .i64 64, .slice 1 0 0 0 3 (some 3), .slice 1 1 0 0 3 (some 3), .slice 1 2 0 0 3 (some 3), .slice 1 3 0 0 3 (some 3)], .slice 1 4 g4 off n cp]), .leN (off + n) zs.length, .leN n 140737488355000], .slice 1 5 (2 + padLaw 64 (n + 1) + 8) 0 (n + 1 + padLaw 64 (n + 1) + 8) none, [some ⟨.ints .i64 [7, 18, 3], 0, false, 3⟩, some ⟨.ints .i64 [17, 19, 10], 0, false, 3⟩, some ⟨.ints .i64 [2, 13, 22], 0, false, 3⟩, some ⟨.ints .i64 [6, 11, 25], 0, false, 3⟩, some ⟨.ints .u8 zs, g4, false, 5⟩, some ⟨.ints .u8 (fillLaw 64 (subLaw zs off n)), 2 + padLaw 64 (n + 1) + 8, true, 5⟩]⟩
theorem sm48_32c_ok {args : List AVal} {T : Tab} {zs : List Int} {g4 : Nat} {off : Nat} {n : Nat} {cp : Option Nat} (h : allP (sm48_32c args T zs g4 off n cp).cs) : Small prog glS 48 args T (sm48_32c args T zs g4 off n cp).val (sm48_32c args T zs g4 off n cp).tab := by
  obtain ⟨hT, hv, h1, h2, _⟩ := h
  simp only [Con.h] at hT hv h1 h2
  injection hv with hv
  subst hT hv
  have hl := subLaw_len h1
  have hl' : (List.take n (List.drop off zs)).length = n := hl
  have hq := pad64_le (n + 1)
  refine small_ofG (R := R48_32 zs g4 off n cp) (keep := [0, 1, 2, 3, 4, 6]) eS0_ok hmS (f := 48) (fn := f48) (by kernel_rfl) (by kernel_rfl) orc48_32_ok rfl (R48_32_ok ?_) (by rw [R48_32_val, addO_eq]; rfl) ?_
  · simp only [allP, Con.h, addO_eq, dropO_eq, List.nil_append, List.length_append, List.length_take, List.length_drop, zero_len, List.length_cons, List.length_nil, eq_self, true_and, and_true]
    omega
  · rw [R48_32_tab]
    have e : List.take n (subLaw zs off n) = subLaw zs off n := List.take_of_length_le (by omega)
    simp only [addO_eq, dropO_eq, List.nil_append]
    show ([some ⟨.ints .i64 [7, 18, 3], 0, false, 3⟩, some ⟨.ints .i64 [17, 19, 10], 0, false, 3⟩, some ⟨.ints .i64 [2, 13, 22], 0, false, 3⟩, some ⟨.ints .i64 [6, 11, 25], 0, false, 3⟩, some ⟨.ints .u8 zs, g4, false, 5⟩, some ⟨.ints .u8 (List.take n (subLaw zs off n) ++ [128] ++ zeroLaw (padLaw 64 (n + 1)) ++ zeroLaw 0 ++ beLaw 8 ((n : Int) * 8 % 18446744073709551616)), 2 + padLaw 64 (n + 1) + 8, true, 5⟩] : Tab) = _
    rw [show (List.take n (subLaw zs off n) ++ [128] ++ zeroLaw (padLaw 64 (n + 1)) ++ zeroLaw 0 ++ beLaw 8 ((n : Int) * 8 % 18446744073709551616)) = fillLaw 64 (subLaw zs off n) by unfold fillLaw; rw [e, hl]]
    rfl
noncomputable def sm48_32 : Summary := fun args T => sm48_32c args T (xsAt T 4) (gAt T 4) (offOf (vAt args 1)) (lenOf (vAt args 1)) (capOf (vAt args 1))
theorem sm48_32_ok : SmOk prog glS 48 sm48_32 := fun args T h => sm48_32c_ok h
noncomputable def S48_32 : Summary := callR sm48_32 []
theorem S48_32_ok : SumOk prog glS 48 S48_32 := callR_ok sm48_32_ok []
noncomputable def eW32 : Env := eS0 [(46, S46), (47, S47), (48, S48_32), (49, S49_32)]
theorem eW32_ok : EnvOk eW32 := envOf_ok tysS_ok (SumsOk.cons (fn := f46) S46_ok (by kernel_rfl) (by kernel_rfl) (by kernel_rfl) (SumsOk.cons (fn := f47) S47_ok (by kernel_rfl) (by kernel_rfl) (by kernel_rfl) (SumsOk.cons (fn := f48) S48_32_ok (by kernel_rfl) (by kernel_rfl) (by kernel_rfl) (SumsOk.cons (fn := f49) S49_32_ok (by kernel_rfl) (by kernel_rfl) (by kernel_rfl) trivial))))
noncomputable def sm48_64c (args : List AVal) (T : Tab) (zs : List Int) (g4 : Nat) (off : Nat) (n : Nat) (cp : Option Nat) : Res := ⟨[.tab T [some ⟨.ints .i64 [1, 8, 7], 0, false, 3⟩, some ⟨.ints .i64 [19, 61, 6], 0, false, 3⟩, some ⟨.ints .i64 [28, 34, 39], 0, false, 3⟩, some ⟨.ints .i64 [14, 18, 41], 0, false, 3⟩, some ⟨.ints .u8 zs, g4, false, 5⟩], .val (.tuple args) (.tuple [.agg [.int .i64 64, .int .i64 128, .int .i64 80, .slice 1 0 0 0 3 (some 3), .slice 1 1 0 0 3 (some 3), .slice 1 2 0 0 3 (some 3), .slice 1 3 0 0 3 (some 3)], .slice 1 4 g4 off n cp]), .leN (off + n) zs.length, .leN n 140737488355000], .slice 1 5 (2 + padLaw 128 (n + 1) + 16) 0 (n + 1 + padLaw 128 (n + 1) + 16) none, [some ⟨.ints .i64 [1, 8, 7], 0, false, 3⟩, some ⟨.ints .i64 [19, 61, 6], 0, false, 3⟩, some ⟨.ints .i64 [28, 34, 39], 0, false, 3⟩, some ⟨.ints .i64 [14, 18, 41], 0, false, 3⟩, some ⟨.ints .u8 zs, g4, false, 5⟩, some ⟨.ints .u8 (fillLaw 128 (subLaw zs off n)), 2 + padLaw 128 (n + 1) + 16, true, 5⟩]⟩
theorem sm48_64c_ok {args : List AVal} {T : Tab} {zs : List Int} {g4 : Nat} {off : Nat} {n : Nat} {cp : Option Nat} (h : allP (sm48_64c args T zs g4 off n cp).cs) : Small prog glS 48 args T (sm48_64c args T zs g4 off n cp).val (sm48_64c args T zs g4 off n cp).tab := by
  obtain ⟨hT, hv, h1, h2, _⟩ := h
  simp only [Con.h] at hT hv h1 h2
  injection hv with hv
  subst hT hv
  have hl := subLaw_len h1
  have hl' : (List.take n (List.drop off zs)).length = n := hl
  have hq := pad128_le (n + 1)
  refine small_ofG (R := R48_64 zs g4 off n cp) (keep := [0, 1, 2, 3, 4, 6]) eS0_ok hmS (f := 48) (fn := f48) (by kernel_rfl) (by kernel_rfl) orc48_64_ok rfl (R48_64_ok ?_) (by rw [R48_64_val, addO_eq]; rfl) ?_
  · simp only [allP, Con.h, addO_eq, dropO_eq, List.nil_append, List.length_append, List.length_take, List.length_drop, zero_len, List.length_cons, List.length_nil, eq_self, true_and, and_true]
    omega
  · rw [R48_64_tab]
    have e : List.take n (subLaw zs off n) = subLaw zs off n := List.take_of_length_le (by omega)
    simp only [addO_eq, dropO_eq, List.nil_append]
    show ([some ⟨.ints .i64 [1, 8, 7], 0, false, 3⟩, some ⟨.ints .i64 [19, 61, 6], 0, false, 3⟩, some ⟨.ints .i64 [28, 34, 39], 0, false, 3⟩, some ⟨.ints .i64 [14, 18, 41], 0, false, 3⟩, some ⟨.ints .u8 zs, g4, false, 5⟩, some ⟨.ints .u8 (List.take n (subLaw zs off n) ++ [128] ++ zeroLaw (padLaw 128 (n + 1)) ++ zeroLaw 8 ++ beLaw 8 ((n : Int) * 8 % 18446744073709551616)), 2 + padLaw 128 (n + 1) + 16, true, 5⟩] : Tab) = _
    rw [show (List.take n (subLaw zs off n) ++ [128] ++ zeroLaw (padLaw 128 (n + 1)) ++ zeroLaw 8 ++ beLaw 8 ((n : Int) * 8 % 18446744073709551616)) = fillLaw 128 (subLaw zs off n) by unfold fillLaw; rw [e, hl]]
    rfl
noncomputable def sm48_64 : Summary := fun args T => sm48_64c args T (xsAt T 4) (gAt T 4) (offOf (vAt args 1)) (lenOf (vAt args 1)) (capOf (vAt args 1))
theorem sm48_64_ok : SmOk prog glS 48 sm48_64 := fun args T h => sm48_64c_ok h
noncomputable def S48_64 : Summary := callR sm48_64 []
theorem S48_64_ok : SumOk prog glS 48 S48_64 := callR_ok sm48_64_ok []
noncomputable def eW64 : Env := eS0 [(46, S46), (47, S47), (48, S48_64), (49, S49_64)]
theorem eW64_ok : EnvOk eW64 := envOf_ok tysS_ok (SumsOk.cons (fn := f46) S46_ok (by kernel_rfl) (by kernel_rfl) (by kernel_rfl) (SumsOk.cons (fn := f47) S47_ok (by kernel_rfl) (by kernel_rfl) (by kernel_rfl) (SumsOk.cons (fn := f48) S48_64_ok (by kernel_rfl) (by kernel_rfl) (by kernel_rfl) (SumsOk.cons (fn := f49) S49_64_ok (by kernel_rfl) (by kernel_rfl) (by kernel_rfl) trivial))))
end Go.Abs
