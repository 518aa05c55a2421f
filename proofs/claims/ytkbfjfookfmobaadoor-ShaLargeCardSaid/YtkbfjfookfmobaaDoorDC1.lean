/- What functions of the given program come to, by the abstract machine: one text of a proof. -/
import Derived.Test.YtkbfjfookfmobaaDoorDB6
set_option linter.unusedVariables false
set_option linter.unusedSimpArgs false
set_option maxRecDepth 8000
namespace Go.Abs
open Go.Proofs Go.Proofs.Tryd
/-! ### the document's words -/
theorem iand_mask {x : Int} (h : 0 ≤ x) : iand x 4294967295 = x % 4294967296 := by
  obtain ⟨n, rfl⟩ := Int.eq_ofNat_of_zero_le h
  unfold iand
  rw [Int.toNat_natCast]
  have := Nat.and_two_pow_sub_one_eq_mod n 32
  rw [show (4294967295 : Int).toNat = 2 ^ 32 - 1 by decide, this]
  omega
theorem ior_mod32 (a b : Int) (ha : 0 ≤ a) (hb : 0 ≤ b) : ior a b % 4294967296 = ior (a % 4294967296) (b % 4294967296) := by
  obtain ⟨n, rfl⟩ := Int.eq_ofNat_of_zero_le ha
  obtain ⟨m, rfl⟩ := Int.eq_ofNat_of_zero_le hb
  unfold ior
  rw [Int.toNat_natCast, Int.toNat_natCast, show ((n : Int) % 4294967296).toNat = n % 2 ^ 32 by omega, show ((m : Int) % 4294967296).toNat = m % 2 ^ 32 by omega, ← Nat.or_mod_two_pow]
  omega
theorem rot32 {x : Int} (hx : Wd 32 x) (n : Nat) (d e : Int) (hd : d = 2 ^ n) (he : e = 2 ^ (32 - n)) : iand (ior (x / d) (x * e % 18446744073709551616)) 4294967295 = rotrLaw 32 x n := by
  have hdp : (0 : Int) < d := by rw [hd, pow_nat]; exact_mod_cast Nat.two_pow_pos n
  have h1 : 0 ≤ x / d := Int.ediv_nonneg hx.1 (by omega)
  have h2 : x / d < 4294967296 := (hx.divk hdp).2
  rw [iand_mask (by unfold ior; omega), ior_mod32 _ _ h1 (by omega)]
  unfold rotrLaw
  rw [Int.emod_eq_of_lt h1 h2, ← hd, ← he, show (2 : Int) ^ 32 = 4294967296 by decide]
  congr 1
  generalize x * e = y
  omega
theorem rot64 {x : Int} (n : Nat) (d e : Int) (hd : d = 2 ^ n) (he : e = 2 ^ (64 - n)) : ior (x / d) (x * e % 18446744073709551616) = rotrLaw 64 x n := by
  unfold rotrLaw
  rw [← hd, ← he, show (2 : Int) ^ 64 = 18446744073709551616 by decide]
theorem Wd.up {x : Int} (h : Wd 32 x) : Wd 64 x := ⟨h.1, by have := h.2; rw [show (2 : Int) ^ 32 = 4294967296 by decide] at this; rw [show (2 : Int) ^ 64 = 18446744073709551616 by decide]; omega⟩
def zz32Law (a0 a1 a2 a3 : List Int) : Prop := a0 = [7, 18, 3] ∧ a1 = [17, 19, 10] ∧ a2 = [2, 13, 22] ∧ a3 = [6, 11, 25]
theorem zz32 : zz32Law [7, 18, 3] [17, 19, 10] [2, 13, 22] [6, 11, 25] := ⟨rfl, rfl, rfl, rfl⟩
/-! width 32 -/
noncomputable def S57_32 : Summary := sumI modeO (eS0 []) f57 [] 100 [] []
theorem S57_32_ok : SumOk prog glS 57 S57_32 := sumI_ok eS0_ok hmS (fn := f57) (by kernel_rfl) (by kernel_rfl) [] FnOrc.nil 100 [] []
noncomputable def eP32 : Env := eS0 [(57, S57_32)]
theorem eP32_ok : EnvOk eP32 := envOf_ok tysS_ok (SumsOk.cons (fn := f57) S57_32_ok (by kernel_rfl) (by kernel_rfl) (by kernel_rfl) trivial)
noncomputable def S64_32 : Summary := sumI modeO eP32 f64 [] 100 [] []
theorem S64_32_ok : SumOk prog glS 64 S64_32 := sumI_ok eP32_ok hmS (fn := f64) (by kernel_rfl) (by kernel_rfl) [] FnOrc.nil 100 [] []
noncomputable def eQ32 : Env := eS0 [(57, S57_32), (64, S64_32)]
theorem eQ32_ok : EnvOk eQ32 := envOf_ok tysS_ok (SumsOk.cons (fn := f57) S57_32_ok (by kernel_rfl) (by kernel_rfl) (by kernel_rfl) (SumsOk.cons (fn := f64) S64_32_ok (by kernel_rfl) (by kernel_rfl) (by kernel_rfl) trivial))
noncomputable def R63_32a (x : Int) : Res := runF eQ32 f63 [] 400 [.agg [.int .i64 32, .int .i64 64, .int .i64 64, .slice 1 0 0 0 3 (some 3), .slice 1 1 0 0 3 (some 3), .slice 1 2 0 0 3 (some 3), .slice 1 3 0 0 3 (some 3)], .int .u64 x, .slice 1 0 0 0 3 (some 3)] [some ⟨.ints .i64 [7, 18, 3], 0, false, 3⟩, some ⟨.ints .i64 [17, 19, 10], 0, false, 3⟩, some ⟨.ints .i64 [2, 13, 22], 0, false, 3⟩, some ⟨.ints .i64 [6, 11, 25], 0, false, 3⟩] []
theorem R63_32a_ok {x : Int} (h : allP [.nn .u64 (x / 128), .nn .u64 (x * 33554432 % 18446744073709551616), .nn .u64 (ior (x / 128) (x * 33554432 % 18446744073709551616)), .nn .u64 (x / 262144), .nn .u64 (x * 16384 % 18446744073709551616), .nn .u64 (ior (x / 262144) (x * 16384 % 18446744073709551616)), .nn .u64 (iand (ior (x / 128) (x * 33554432 % 18446744073709551616)) 4294967295), .nn .u64 (iand
 (ior (x / 262144) (x * 16384 % 18446744073709551616)) 4294967295), .nn .u64 (ixor (iand (ior (x / 128) (x * 33554432 % 18446744073709551616)) 4294967295) (iand (ior (x / 262144) (x * 16384 % 18446744073709551616)) 4294967295)), .nn .u64 (x / 8)]) : OkR (R63_32a x) := OkR.dem (fl := bitsF 116 7371346111906422903779550908383230) (by kernel_rfl) (by kernel_rfl) (by kernel_rfl) h
theorem R63_32a_val {x : Int} : (R63_32a x).val = .int .u64 (ixor (ixor (iand (ior (x / 128) (x * 33554432 % 18446744073709551616)) 4294967295) (iand (ior (x / 262144) (x * 16384 % 18446744073709551616)) 4294967295)) (x / 8)) := by kernel_rfl
theorem R63_32a_tab {x : Int} : (R63_32a x).tab = [some ⟨.ints .i64 [7, 18, 3], 0, false, 3⟩, some ⟨.ints .i64 [17, 19, 10], 0, false, 3⟩, some ⟨.ints .i64 [2, 13, 22], 0, false, 3⟩, some ⟨.ints .i64 [6, 11, 25], 0, false, 3⟩, some ⟨.agg [.int .i64 32, .int .i64 64, .int .i64 64, .slice 1 0 0 0 3 (some 3), .slice 1 1 0 0 3 (some 3), .slice 1 2 0 0 3 (some 3), .slice 1 3 0 0 3 (some 3)], 0, true,
 54⟩] := by kernel_rfl
noncomputable def R63_32b (x : Int) : Res := runF eQ32 f63 [] 400 [.agg [.int .i64 32, .int .i64 64, .int .i64 64, .slice 1 0 0 0 3 (some 3), .slice 1 1 0 0 3 (some 3), .slice 1 2 0 0 3 (some 3), .slice 1 3 0 0 3 (some 3)], .int .u64 x, .slice 1 1 0 0 3 (some 3)] [some ⟨.ints .i64 [7, 18, 3], 0, false, 3⟩, some ⟨.ints .i64 [17, 19, 10], 0, false, 3⟩, some ⟨.ints .i64 [2, 13, 22], 0, false, 3⟩, some ⟨.ints .i64 [6, 11, 25], 0, false, 3⟩] []
theorem R63_32b_ok {x : Int} (h : allP [.nn .u64 (x / 131072), .nn .u64 (x * 32768 % 18446744073709551616), .nn .u64 (ior (x / 131072) (x * 32768 % 18446744073709551616)), .nn .u64 (x / 524288), .nn .u64 (x * 8192 % 18446744073709551616), .nn .u64 (ior (x / 524288) (x * 8192 % 18446744073709551616)), .nn .u64 (iand (ior (x / 131072) (x * 32768 % 18446744073709551616)) 4294967295), .nn .u64 (iand
 (ior (x / 524288) (x * 8192 % 18446744073709551616)) 4294967295), .nn .u64 (ixor (iand (ior (x / 131072) (x * 32768 % 18446744073709551616)) 4294967295) (iand (ior (x / 524288) (x * 8192 % 18446744073709551616)) 4294967295)), .nn .u64 (x / 1024)]) : OkR (R63_32b x) := OkR.dem (fl := bitsF 116 7371346111906422903779550908383230) (by kernel_rfl) (by kernel_rfl) (by kernel_rfl) h
theorem R63_32b_val {x : Int} : (R63_32b x).val = .int .u64 (ixor (ixor (iand (ior (x / 131072) (x * 32768 % 18446744073709551616)) 4294967295) (iand (ior (x / 524288) (x * 8192 % 18446744073709551616)) 4294967295)) (x / 1024)) := by kernel_rfl
theorem R63_32b_tab {x : Int} : (R63_32b x).tab = [some ⟨.ints .i64 [7, 18, 3], 0, false, 3⟩, some ⟨.ints .i64 [17, 19, 10], 0, false, 3⟩, some ⟨.ints .i64 [2, 13, 22], 0, false, 3⟩, some ⟨.ints .i64 [6, 11, 25], 0, false, 3⟩, some ⟨.agg [.int .i64 32, .int .i64 64, .int .i64 64, .slice 1 0 0 0 3 (some 3), .slice 1 1 0 0 3 (some 3), .slice 1 2 0 0 3 (some 3), .slice 1 3 0 0 3 (some 3)], 0, true,
 54⟩] := by kernel_rfl
noncomputable def R58_32a (x : Int) : Res := runF eQ32 f58 [] 400 [.agg [.int .i64 32, .int .i64 64, .int .i64 64, .slice 1 0 0 0 3 (some 3), .slice 1 1 0 0 3 (some 3), .slice 1 2 0 0 3 (some 3), .slice 1 3 0 0 3 (some 3)], .int .u64 x, .slice 1 2 0 0 3 (some 3)] [some ⟨.ints .i64 [7, 18, 3], 0, false, 3⟩, some ⟨.ints .i64 [17, 19, 10], 0, false, 3⟩, some ⟨.ints .i64 [2, 13, 22], 0, false, 3⟩, some ⟨.ints .i64 [6, 11, 25], 0, false, 3⟩] []
theorem R58_32a_ok {x : Int} (h : allP [.nn .u64 (x / 4), .nn .u64 (x * 1073741824 % 18446744073709551616), .nn .u64 (ior (x / 4) (x * 1073741824 % 18446744073709551616)), .nn .u64 (x / 8192), .nn .u64 (x * 524288 % 18446744073709551616), .nn .u64 (ior (x / 8192) (x * 524288 % 18446744073709551616)), .nn .u64 (iand (ior (x / 4) (x * 1073741824 % 18446744073709551616)) 4294967295), .nn .u64 (iand
 (ior (x / 8192) (x * 524288 % 18446744073709551616)) 4294967295), .nn .u64 (iand (ior (x / 4) (x * 1073741824 % 18446744073709551616)) 4294967295), .nn .u64 (iand (ior (x / 8192) (x * 524288 % 18446744073709551616)) 4294967295), .nn .u64 (x / 4194304), .nn .u64 (x * 1024 % 18446744073709551616), .nn .u64 (ior (x / 4194304) (x * 1024 % 18446744073709551616)), .nn .u64 (ixor (iand (ior (x / 4) (x *
 1073741824 % 18446744073709551616)) 4294967295) (iand (ior (x / 8192) (x * 524288 % 18446744073709551616)) 4294967295)), .nn .u64 (iand (ior (x / 4194304) (x * 1024 % 18446744073709551616)) 4294967295)]) : OkR (R58_32a x) := OkR.dem (fl := bitsF 143 1043305713527984143872434854614314701029374) (by kernel_rfl) (by kernel_rfl) (by kernel_rfl) h
theorem R58_32a_val {x : Int} : (R58_32a x).val = .int .u64 (ixor (ixor (iand (ior (x / 4) (x * 1073741824 % 18446744073709551616)) 4294967295) (iand (ior (x / 8192) (x * 524288 % 18446744073709551616)) 4294967295)) (iand (ior (x / 4194304) (x * 1024 % 18446744073709551616)) 4294967295)) := by kernel_rfl
theorem R58_32a_tab {x : Int} : (R58_32a x).tab = [some ⟨.ints .i64 [7, 18, 3], 0, false, 3⟩, some ⟨.ints .i64 [17, 19, 10], 0, false, 3⟩, some ⟨.ints .i64 [2, 13, 22], 0, false, 3⟩, some ⟨.ints .i64 [6, 11, 25], 0, false, 3⟩, some ⟨.agg [.int .i64 32, .int .i64 64, .int .i64 64, .slice 1 0 0 0 3 (some 3), .slice 1 1 0 0 3 (some 3), .slice 1 2 0 0 3 (some 3), .slice 1 3 0 0 3 (some 3)], 0, true,
 54⟩] := by kernel_rfl
noncomputable def R58_32b (x : Int) : Res := runF eQ32 f58 [] 400 [.agg [.int .i64 32, .int .i64 64, .int .i64 64, .slice 1 0 0 0 3 (some 3), .slice 1 1 0 0 3 (some 3), .slice 1 2 0 0 3 (some 3), .slice 1 3 0 0 3 (some 3)], .int .u64 x, .slice 1 3 0 0 3 (some 3)] [some ⟨.ints .i64 [7, 18, 3], 0, false, 3⟩, some ⟨.ints .i64 [17, 19, 10], 0, false, 3⟩, some ⟨.ints .i64 [2, 13, 22], 0, false, 3⟩, some ⟨.ints .i64 [6, 11, 25], 0, false, 3⟩] []
theorem R58_32b_ok {x : Int} (h : allP [.nn .u64 (x / 64), .nn .u64 (x * 67108864 % 18446744073709551616), .nn .u64 (ior (x / 64) (x * 67108864 % 18446744073709551616)), .nn .u64 (x / 2048), .nn .u64 (x * 2097152 % 18446744073709551616), .nn .u64 (ior (x / 2048) (x * 2097152 % 18446744073709551616)), .nn .u64 (iand (ior (x / 64) (x * 67108864 % 18446744073709551616)) 4294967295), .nn .u64 (iand
 (ior (x / 2048) (x * 2097152 % 18446744073709551616)) 4294967295), .nn .u64 (iand (ior (x / 64) (x * 67108864 % 18446744073709551616)) 4294967295), .nn .u64 (iand (ior (x / 2048) (x * 2097152 % 18446744073709551616)) 4294967295), .nn .u64 (x / 33554432), .nn .u64 (x * 128 % 18446744073709551616), .nn .u64 (ior (x / 33554432) (x * 128 % 18446744073709551616)), .nn .u64 (ixor (iand (ior (x / 64) (x *
 67108864 % 18446744073709551616)) 4294967295) (iand (ior (x / 2048) (x * 2097152 % 18446744073709551616)) 4294967295)), .nn .u64 (iand (ior (x / 33554432) (x * 128 % 18446744073709551616)) 4294967295)]) : OkR (R58_32b x) := OkR.dem (fl := bitsF 143 1043305713527984143872434854614314701029374) (by kernel_rfl) (by kernel_rfl) (by kernel_rfl) h
theorem R58_32b_val {x : Int} : (R58_32b x).val = .int .u64 (ixor (ixor (iand (ior (x / 64) (x * 67108864 % 18446744073709551616)) 4294967295) (iand (ior (x / 2048) (x * 2097152 % 18446744073709551616)) 4294967295)) (iand (ior (x / 33554432) (x * 128 % 18446744073709551616)) 4294967295)) := by kernel_rfl
theorem R58_32b_tab {x : Int} : (R58_32b x).tab = [some ⟨.ints .i64 [7, 18, 3], 0, false, 3⟩, some ⟨.ints .i64 [17, 19, 10], 0, false, 3⟩, some ⟨.ints .i64 [2, 13, 22], 0, false, 3⟩, some ⟨.ints .i64 [6, 11, 25], 0, false, 3⟩, some ⟨.agg [.int .i64 32, .int .i64 64, .int .i64 64, .slice 1 0 0 0 3 (some 3), .slice 1 1 0 0 3 (some 3), .slice 1 2 0 0 3 (some 3), .slice 1 3 0 0 3 (some 3)], 0, true,
 54⟩] := by kernel_rfl
def zz64Law (a0 a1 a2 a3 : List Int) : Prop := a0 = [1, 8, 7] ∧ a1 = [19, 61, 6] ∧ a2 = [28, 34, 39] ∧ a3 = [14, 18, 41]
theorem zz64 : zz64Law [1, 8, 7] [19, 61, 6] [28, 34, 39] [14, 18, 41] := ⟨rfl, rfl, rfl, rfl⟩
/-! width 64 -/
noncomputable def S57_64 : Summary := sumI modeO (eS0 []) f57 [] 100 [] []
theorem S57_64_ok : SumOk prog glS 57 S57_64 := sumI_ok eS0_ok hmS (fn := f57) (by kernel_rfl) (by kernel_rfl) [] FnOrc.nil 100 [] []
noncomputable def eP64 : Env := eS0 [(57, S57_64)]
theorem eP64_ok : EnvOk eP64 := envOf_ok tysS_ok (SumsOk.cons (fn := f57) S57_64_ok (by kernel_rfl) (by kernel_rfl) (by kernel_rfl) trivial)
noncomputable def S64_64 : Summary := sumI modeO eP64 f64 [] 100 [] []
theorem S64_64_ok : SumOk prog glS 64 S64_64 := sumI_ok eP64_ok hmS (fn := f64) (by kernel_rfl) (by kernel_rfl) [] FnOrc.nil 100 [] []
noncomputable def eQ64 : Env := eS0 [(57, S57_64), (64, S64_64)]
theorem eQ64_ok : EnvOk eQ64 := envOf_ok tysS_ok (SumsOk.cons (fn := f57) S57_64_ok (by kernel_rfl) (by kernel_rfl) (by kernel_rfl) (SumsOk.cons (fn := f64) S64_64_ok (by kernel_rfl) (by kernel_rfl) (by kernel_rfl) trivial))
noncomputable def R63_64a (x : Int) : Res := runF eQ64 f63 [] 400 [.agg [.int .i64 64, .int .i64 128, .int .i64 80, .slice 1 0 0 0 3 (some 3), .slice 1 1 0 0 3 (some 3), .slice 1 2 0 0 3 (some 3), .slice 1 3 0 0 3 (some 3)], .int .u64 x, .slice 1 0 0 0 3 (some 3)] [some ⟨.ints .i64 [1, 8, 7], 0, false, 3⟩, some ⟨.ints .i64 [19, 61, 6], 0, false, 3⟩, some ⟨.ints .i64 [28, 34, 39], 0, false, 3⟩, some ⟨.ints .i64 [14, 18, 41], 0, false, 3⟩] []
theorem R63_64a_ok {x : Int} (h : allP [.nn .u64 (x / 2), .nn .u64 (x * 9223372036854775808 % 18446744073709551616), .nn .u64 (x / 256), .nn .u64 (x * 72057594037927936 % 18446744073709551616), .nn .u64 (ior (x / 2) (x * 9223372036854775808 % 18446744073709551616)), .nn .u64 (ior (x / 256) (x * 72057594037927936 % 18446744073709551616)), .nn .u64 (ixor (ior (x / 2) (x * 9223372036854775808 %
 18446744073709551616)) (ior (x / 256) (x * 72057594037927936 % 18446744073709551616))), .nn .u64 (x / 128)]) : OkR (R63_64a x) := OkR.dem (fl := bitsF 112 460709131998790786749584409362430) (by kernel_rfl) (by kernel_rfl) (by kernel_rfl) h
theorem R63_64a_val {x : Int} : (R63_64a x).val = .int .u64 (ixor (ixor (ior (x / 2) (x * 9223372036854775808 % 18446744073709551616)) (ior (x / 256) (x * 72057594037927936 % 18446744073709551616))) (x / 128)) := by kernel_rfl
theorem R63_64a_tab {x : Int} : (R63_64a x).tab = [some ⟨.ints .i64 [1, 8, 7], 0, false, 3⟩, some ⟨.ints .i64 [19, 61, 6], 0, false, 3⟩, some ⟨.ints .i64 [28, 34, 39], 0, false, 3⟩, some ⟨.ints .i64 [14, 18, 41], 0, false, 3⟩, some ⟨.agg [.int .i64 64, .int .i64 128, .int .i64 80, .slice 1 0 0 0 3 (some 3), .slice 1 1 0 0 3 (some 3), .slice 1 2 0 0 3 (some 3), .slice 1 3 0 0 3 (some 3)], 0, true,
 54⟩] := by kernel_rfl
noncomputable def R63_64b (x : Int) : Res := runF eQ64 f63 [] 400 [.agg [.int .i64 64, .int .i64 128, .int .i64 80, .slice 1 0 0 0 3 (some 3), .slice 1 1 0 0 3 (some 3), .slice 1 2 0 0 3 (some 3), .slice 1 3 0 0 3 (some 3)], .int .u64 x, .slice 1 1 0 0 3 (some 3)] [some ⟨.ints .i64 [1, 8, 7], 0, false, 3⟩, some ⟨.ints .i64 [19, 61, 6], 0, false, 3⟩, some ⟨.ints .i64 [28, 34, 39], 0, false, 3⟩, some ⟨.ints .i64 [14, 18, 41], 0, false, 3⟩] []
theorem R63_64b_ok {x : Int} (h : allP [.nn .u64 (x / 524288), .nn .u64 (x * 35184372088832 % 18446744073709551616), .nn .u64 (x / 2305843009213693952), .nn .u64 (x * 8 % 18446744073709551616), .nn .u64 (ior (x / 524288) (x * 35184372088832 % 18446744073709551616)), .nn .u64 (ior (x / 2305843009213693952) (x * 8 % 18446744073709551616)), .nn .u64 (ixor (ior (x / 524288) (x * 35184372088832 %
 18446744073709551616)) (ior (x / 2305843009213693952) (x * 8 % 18446744073709551616))), .nn .u64 (x / 64)]) : OkR (R63_64b x) := OkR.dem (fl := bitsF 112 460709131998790786749584409362430) (by kernel_rfl) (by kernel_rfl) (by kernel_rfl) h
theorem R63_64b_val {x : Int} : (R63_64b x).val = .int .u64 (ixor (ixor (ior (x / 524288) (x * 35184372088832 % 18446744073709551616)) (ior (x / 2305843009213693952) (x * 8 % 18446744073709551616))) (x / 64)) := by kernel_rfl
theorem R63_64b_tab {x : Int} : (R63_64b x).tab = [some ⟨.ints .i64 [1, 8, 7], 0, false, 3⟩, some ⟨.ints .i64 [19, 61, 6], 0, false, 3⟩, some ⟨.ints .i64 [28, 34, 39], 0, false, 3⟩, some ⟨.ints .i64 [14, 18, 41], 0, false, 3⟩, some ⟨.agg [.int .i64 64, .int .i64 128, .int .i64 80, .slice 1 0 0 0 3 (some 3), .slice 1 1 0 0 3 (some 3), .slice 1 2 0 0 3 (some 3), .slice 1 3 0 0 3 (some 3)], 0, true,
 54⟩] := by kernel_rfl
noncomputable def R58_64a (x : Int) : Res := runF eQ64 f58 [] 400 [.agg [.int .i64 64, .int .i64 128, .int .i64 80, .slice 1 0 0 0 3 (some 3), .slice 1 1 0 0 3 (some 3), .slice 1 2 0 0 3 (some 3), .slice 1 3 0 0 3 (some 3)], .int .u64 x, .slice 1 2 0 0 3 (some 3)] [some ⟨.ints .i64 [1, 8, 7], 0, false, 3⟩, some ⟨.ints .i64 [19, 61, 6], 0, false, 3⟩, some ⟨.ints .i64 [28, 34, 39], 0, false, 3⟩, some ⟨.ints .i64 [14, 18, 41], 0, false, 3⟩] []
theorem R58_64a_ok {x : Int} (h : allP [.nn .u64 (x / 268435456), .nn .u64 (x * 68719476736 % 18446744073709551616), .nn .u64 (x / 17179869184), .nn .u64 (x * 1073741824 % 18446744073709551616), .nn .u64 (ior (x / 268435456) (x * 68719476736 % 18446744073709551616)), .nn .u64 (ior (x / 17179869184) (x * 1073741824 % 18446744073709551616)), .nn .u64 (ior (x / 268435456) (x * 68719476736 %
 18446744073709551616)), .nn .u64 (ior (x / 17179869184) (x * 1073741824 % 18446744073709551616)), .nn .u64 (x / 549755813888), .nn .u64 (x * 33554432 % 18446744073709551616), .nn .u64 (ixor (ior (x / 268435456) (x * 68719476736 % 18446744073709551616)) (ior (x / 17179869184) (x * 1073741824 % 18446744073709551616))), .nn .u64 (ior (x / 549755813888) (x * 33554432 % 18446744073709551616))]) : OkR
 (R58_64a x) := OkR.dem (fl := bitsF 137 21650464129618885673354583925490815336446) (by kernel_rfl) (by kernel_rfl) (by kernel_rfl) h
theorem R58_64a_val {x : Int} : (R58_64a x).val = .int .u64 (ixor (ixor (ior (x / 268435456) (x * 68719476736 % 18446744073709551616)) (ior (x / 17179869184) (x * 1073741824 % 18446744073709551616))) (ior (x / 549755813888) (x * 33554432 % 18446744073709551616))) := by kernel_rfl
theorem R58_64a_tab {x : Int} : (R58_64a x).tab = [some ⟨.ints .i64 [1, 8, 7], 0, false, 3⟩, some ⟨.ints .i64 [19, 61, 6], 0, false, 3⟩, some ⟨.ints .i64 [28, 34, 39], 0, false, 3⟩, some ⟨.ints .i64 [14, 18, 41], 0, false, 3⟩, some ⟨.agg [.int .i64 64, .int .i64 128, .int .i64 80, .slice 1 0 0 0 3 (some 3), .slice 1 1 0 0 3 (some 3), .slice 1 2 0 0 3 (some 3), .slice 1 3 0 0 3 (some 3)], 0, true,
 54⟩] := by kernel_rfl
noncomputable def R58_64b (x : Int) : Res := runF eQ64 f58 [] 400 [.agg [.int .i64 64, .int .i64 128, .int .i64 80, .slice 1 0 0 0 3 (some 3), .slice 1 1 0 0 3 (some 3), .slice 1 2 0 0 3 (some 3), .slice 1 3 0 0 3 (some 3)], .int .u64 x, .slice 1 3 0 0 3 (some 3)] [some ⟨.ints .i64 [1, 8, 7], 0, false, 3⟩, some ⟨.ints .i64 [19, 61, 6], 0, false, 3⟩, some ⟨.ints .i64 [28, 34, 39], 0, false, 3⟩, some ⟨.ints .i64 [14, 18, 41], 0, false, 3⟩] []
theorem R58_64b_ok {x : Int} (h : allP [.nn .u64 (x / 16384), .nn .u64 (x * 1125899906842624 % 18446744073709551616), .nn .u64 (x / 262144), .nn .u64 (x * 70368744177664 % 18446744073709551616), .nn .u64 (ior (x / 16384) (x * 1125899906842624 % 18446744073709551616)), .nn .u64 (ior (x / 262144) (x * 70368744177664 % 18446744073709551616)), .nn .u64 (ior (x / 16384) (x * 1125899906842624 %
 18446744073709551616)), .nn .u64 (ior (x / 262144) (x * 70368744177664 % 18446744073709551616)), .nn .u64 (x / 2199023255552), .nn .u64 (x * 8388608 % 18446744073709551616), .nn .u64 (ixor (ior (x / 16384) (x * 1125899906842624 % 18446744073709551616)) (ior (x / 262144) (x * 70368744177664 % 18446744073709551616))), .nn .u64 (ior (x / 2199023255552) (x * 8388608 % 18446744073709551616))]) : OkR
 (R58_64b x) := OkR.dem (fl := bitsF 137 21650464129618885673354583925490815336446) (by kernel_rfl) (by kernel_rfl) (by kernel_rfl) h
theorem R58_64b_val {x : Int} : (R58_64b x).val = .int .u64 (ixor (ixor (ior (x / 16384) (x * 1125899906842624 % 18446744073709551616)) (ior (x / 262144) (x * 70368744177664 % 18446744073709551616))) (ior (x / 2199023255552) (x * 8388608 % 18446744073709551616))) := by kernel_rfl
theorem R58_64b_tab {x : Int} : (R58_64b x).tab = [some ⟨.ints .i64 [1, 8, 7], 0, false, 3⟩, some ⟨.ints .i64 [19, 61, 6], 0, false, 3⟩, some ⟨.ints .i64 [28, 34, 39], 0, false, 3⟩, some ⟨.ints .i64 [14, 18, 41], 0, false, 3⟩, some ⟨.agg [.int .i64 64, .int .i64 128, .int .i64 80, .slice 1 0 0 0 3 (some 3), .slice 1 1 0 0 3 (some 3), .slice 1 2 0 0 3 (some 3), .slice 1 3 0 0 3 (some 3)], 0, true,
 54⟩] := by kernel_rfl
end Go.Abs
