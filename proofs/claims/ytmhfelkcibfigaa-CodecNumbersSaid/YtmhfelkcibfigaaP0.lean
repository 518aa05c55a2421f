/- What functions of the given program come to, by the abstract machine: texts of a proof. -/
import Derived.Test.YtmhfelkcibfigaaAbs2
import Derived.Test.YtmhfelkcibfigaaProg
import Derived.KernelRfl
set_option linter.unusedVariables false
namespace Go.Abs
def tysC : List (Nat × Ty) := [
(1, ⟨.func, 1, 8, .nilFunc⟩),
(2, ⟨(.int .i64), 1, 8, (.int .i64 0)⟩),
(3, ⟨(.int .i64), 1, 8, (.int .i64 0)⟩),
(4, ⟨.bool, 1, 1, (.bool false)⟩),
(5, ⟨(.int .u8), 1, 1, (.int .u8 0)⟩),
(6, ⟨(.int .u8), 1, 1, (.int .u8 0)⟩),
(7, ⟨(.struct [(0, 2), (1, 3), (2, 4), (3, 6)]), 4, 24, (.agg [(.int .i64 0), (.int .i64 0), (.bool false), (.int .u8 0)])⟩),
(8, ⟨(.struct [(0, 2), (1, 3), (2, 4), (3, 6)]), 4, 24, (.agg [(.int .i64 0), (.int .i64 0), (.bool false), (.int .u8 0)])⟩),
(9, ⟨.str, 1, 16, (.str [])⟩),
(10, ⟨.str, 1, 16, (.str [])⟩),
(11, ⟨.str, 1, 16, (.str [])⟩),
(12, ⟨(.int .u64), 1, 8, (.int .u64 0)⟩),
(13, ⟨(.struct [(0, 9), (1, 12)]), 2, 24, (.agg [(.str []), (.int .u64 0)])⟩),
(14, ⟨(.struct [(0, 9), (1, 12)]), 2, 24, (.agg [(.str []), (.int .u64 0)])⟩),
(15, ⟨(.ptr 69), 1, 8, .nilPtr⟩),
(16, ⟨(.ptr 72), 1, 8, .nilPtr⟩),
(17, ⟨(.ptr 81), 1, 8, .nilPtr⟩),
(18, ⟨(.struct [(0, 17)]), 1, 8, (.agg [.nilPtr])⟩),
(19, ⟨(.struct [(0, 17)]), 1, 8, (.agg [.nilPtr])⟩),
(20, ⟨.iface, 1, 16, .nilIface⟩),
(21, ⟨(.int .i32), 1, 4, (.int .i32 0)⟩),
(22, ⟨(.slice 23), 1, 24, .nilSlice⟩),
(23, ⟨(.slice 5), 1, 24, .nilSlice⟩),
(24, ⟨(.int .i64), 1, 8, (.int .i64 0)⟩),
(26, ⟨.func, 1, 8, .nilFunc⟩),
(28, ⟨.func, 1, 8, .nilFunc⟩),
(29, ⟨.func, 1, 8, .nilFunc⟩),
(30, ⟨.func, 1, 8, .nilFunc⟩),
(31, ⟨.func, 1, 8, .nilFunc⟩),
(33, ⟨.func, 1, 8, .nilFunc⟩),
(34, ⟨.func, 1, 8, .nilFunc⟩),
(35, ⟨.func, 1, 8, .nilFunc⟩),
(36, ⟨.func, 1, 8, .nilFunc⟩),
(37, ⟨.func, 1, 8, .nilFunc⟩),
(38, ⟨.func, 1, 8, .nilFunc⟩),
(39, ⟨.func, 1, 8, .nilFunc⟩),
(40, ⟨.func, 1, 8, .nilFunc⟩),
(41, ⟨.func, 1, 8, .nilFunc⟩),
(42, ⟨.func, 1, 8, .nilFunc⟩),
(43, ⟨.func, 1, 8, .nilFunc⟩),
(44, ⟨(.slice 50), 1, 24, .nilSlice⟩),
(45, ⟨(.ptr 60), 1, 8, .nilPtr⟩),
(46, ⟨.func, 1, 8, .nilFunc⟩),
(47, ⟨(.ptr 57), 1, 8, .nilPtr⟩),
(48, ⟨.func, 1, 8, .nilFunc⟩),
(49, ⟨(.struct [(0, 3), (1, 3)]), 2, 16, (.ints .i64 [0, 0])⟩),
(50, ⟨(.struct [(0, 3), (1, 3)]), 2, 16, (.ints .i64 [0, 0])⟩),
(51, ⟨.func, 1, 8, .nilFunc⟩),
(52, ⟨.func, 1, 8, .nilFunc⟩),
(53, ⟨.func, 1, 8, .nilFunc⟩),
(54, ⟨.func, 1, 8, .nilFunc⟩),
(55, ⟨.func, 1, 8, .nilFunc⟩),
(56, ⟨(.struct [(0, 23), (1, 3), (2, 3)]), 3, 40, (.agg [.nilSlice, (.int .i64 0), (.int .i64 0)])⟩),
(57, ⟨(.struct [(0, 23), (1, 3), (2, 3)]), 3, 40, (.agg [.nilSlice, (.int .i64 0), (.int .i64 0)])⟩),
(58, ⟨.func, 1, 8, .nilFunc⟩),
(59, ⟨(.struct [(0, 23), (1, 24), (2, 4)]), 3, 40, (.agg [.nilSlice, (.int .i64 0), (.bool false)])⟩),
(60, ⟨(.struct [(0, 23), (1, 24), (2, 4)]), 3, 40, (.agg [.nilSlice, (.int .i64 0), (.bool false)])⟩),
(61, ⟨.func, 1, 8, .nilFunc⟩),
(62, ⟨(.slice 3), 1, 24, .nilSlice⟩),
(63, ⟨(.int .u64), 1, 8, (.int .u64 0)⟩),
(64, ⟨.func, 1, 8, .nilFunc⟩),
(65, ⟨.func, 1, 8, .nilFunc⟩),
(66, ⟨.func, 1, 8, .nilFunc⟩),
(67, ⟨.func, 1, 8, .nilFunc⟩),
(68, ⟨(.struct [(0, 17), (1, 17), (2, 17), (3, 9)]), 4, 40, (.agg [.nilPtr, .nilPtr, .nilPtr, (.str [])])⟩),
(69, ⟨(.struct [(0, 17), (1, 17), (2, 17), (3, 9)]), 4, 40, (.agg [.nilPtr, .nilPtr, .nilPtr, (.str [])])⟩),
(70, ⟨(.array 0 16), 0, 0, (.agg [])⟩),
(71, ⟨(.struct [(0, 70)]), 0, 0, (.agg [])⟩),
(72, ⟨(.struct [(0, 70)]), 0, 0, (.agg [])⟩),
(73, ⟨(.int .u32), 1, 4, (.int .u32 0)⟩),
(74, ⟨(.int .u8), 1, 1, (.int .u8 0)⟩),
(75, ⟨(.int .u8), 1, 1, (.int .u8 0)⟩),
(76, ⟨.func, 1, 8, .nilFunc⟩),
(77, ⟨(.ptr 5), 1, 8, .nilPtr⟩),
(78, ⟨(.int .i32), 1, 4, (.int .i32 0)⟩),
(79, ⟨(.int .i32), 1, 4, (.int .i32 0)⟩),
(80, ⟨(.struct [(0, 12), (1, 12), (2, 73), (3, 74), (4, 5), (5, 5), (6, 75), (7, 76), (8, 77), (9, 78), (10, 79)]), 11, 48, (.agg [(.int .u64 0), (.int .u64 0), (.int .u32 0), (.int .u8 0), (.int .u8 0), (.int .u8 0), (.int .u8 0), .nilFunc, .nilPtr, (.int .i32 0), (.int .i32 0)])⟩),
(81, ⟨(.struct [(0, 12), (1, 12), (2, 73), (3, 74), (4, 5), (5, 5), (6, 75), (7, 76), (8, 77), (9, 78), (10, 79)]), 11, 48, (.agg [(.int .u64 0), (.int .u64 0), (.int .u32 0), (.int .u8 0), (.int .u8 0), (.int .u8 0), (.int .u8 0), .nilFunc, .nilPtr, (.int .i32 0), (.int .i32 0)])⟩),
(82, ⟨.other, 1, 8, .nilPtr⟩)]
theorem tysC_ok : TysOk Go.Proofs.Try.prog tysC := by
  refine ⟨?_, ?_, ?_, ?_, ?_, ?_, ?_, ?_, ?_, ?_, ?_, ?_, ?_, ?_, ?_, ?_, ?_, ?_, ?_, ?_, ?_, ?_, ?_, ?_, ?_, ?_, ?_, ?_, ?_, ?_, ?_, ?_, ?_, ?_, ?_, ?_, ?_, ?_, ?_, ?_, ?_, ?_, ?_, ?_, ?_, ?_, ?_, ?_, ?_, ?_, ?_, ?_, ?_, ?_, ?_, ?_, ?_, ?_, ?_, ?_, ?_, ?_, ?_, ?_, ?_, ?_, ?_, ?_, ?_, ?_, ?_, ?_, ?_, ?_, ?_, ?_, ?_, ?_, ?_, trivial⟩ <;> kernel_rfl
noncomputable def eC0 (fns : List (Nat × Summary)) : Env := envOf Go.Proofs.Try.prog tysC fns (fun _ => none)
theorem hmC : Go.Proofs.Try.prog.follows .mixedOrders = true := by kernel_rfl
theorem eC0_ok : EnvOk (eC0 []) := envOf_ok tysC_ok trivial
end Go.Abs

set_option linter.unusedVariables false
set_option linter.unusedSimpArgs false
set_option maxRecDepth 8000
namespace Go.Abs
open Go.Proofs.Try
/-! ### codec: what needs no contract of its own -/
noncomputable def S12 : Summary := sumI modeO (eC0 []) f12 [] 100 [] []
theorem S12_ok : SumOk prog (fun _ => none) 12 S12 := sumI_ok eC0_ok hmC (fn := f12) (by kernel_rfl) (by kernel_rfl) [] FnOrc.nil 100 [] []
noncomputable def S35 : Summary := sumI modeO (eC0 []) f35 [] 100 [] []
theorem S35_ok : SumOk prog (fun _ => none) 35 S35 := sumI_ok eC0_ok hmC (fn := f35) (by kernel_rfl) (by kernel_rfl) [] FnOrc.nil 100 [] []
noncomputable def S33 : Summary := sumI modeO (eC0 []) f33 [] 100 [] []
theorem S33_ok : SumOk prog (fun _ => none) 33 S33 := sumI_ok eC0_ok hmC (fn := f33) (by kernel_rfl) (by kernel_rfl) [] FnOrc.nil 100 [] []
noncomputable def S44 : Summary := sumI modeO (eC0 []) f44 [] 100 [] []
theorem S44_ok : SumOk prog (fun _ => none) 44 S44 := sumI_ok eC0_ok hmC (fn := f44) (by kernel_rfl) (by kernel_rfl) [] FnOrc.nil 100 [] []
noncomputable def S39 : Summary := sumI modeO (eC0 []) f39 [] 100 [] []
theorem S39_ok : SumOk prog (fun _ => none) 39 S39 := sumI_ok eC0_ok hmC (fn := f39) (by kernel_rfl) (by kernel_rfl) [] FnOrc.nil 100 [] []
noncomputable def S40 : Summary := sumI modeO (eC0 []) f40 [] 400 [] []
theorem S40_ok : SumOk prog (fun _ => none) 40 S40 := sumI_ok eC0_ok hmC (fn := f40) (by kernel_rfl) (by kernel_rfl) [] FnOrc.nil 400 [] []
noncomputable def S45 : Summary := sumI modeO (eC0 []) f45 [] 400 [] []
theorem S45_ok : SumOk prog (fun _ => none) 45 S45 := sumI_ok eC0_ok hmC (fn := f45) (by kernel_rfl) (by kernel_rfl) [] FnOrc.nil 400 [] []
noncomputable def eC1 : Env := eC0 [(12, S12), (35, S35), (33, S33), (44, S44), (39, S39), (40, S40), (45, S45)]
theorem eC1_ok : EnvOk eC1 := envOf_ok tysC_ok (SumsOk.cons (fn := f12) S12_ok (by kernel_rfl) (by kernel_rfl) (by kernel_rfl) (SumsOk.cons (fn := f35) S35_ok (by kernel_rfl) (by kernel_rfl) (by kernel_rfl) (SumsOk.cons (fn := f33) S33_ok (by kernel_rfl) (by kernel_rfl) (by kernel_rfl)
  (SumsOk.cons (fn := f44) S44_ok (by kernel_rfl) (by kernel_rfl) (by kernel_rfl) (SumsOk.cons (fn := f39) S39_ok (by kernel_rfl) (by kernel_rfl) (by kernel_rfl) (SumsOk.cons (fn := f40) S40_ok (by kernel_rfl) (by kernel_rfl) (by kernel_rfl) (SumsOk.cons (fn := f45) S45_ok (by kernel_rfl) (by kernel_rfl) (by kernel_rfl) trivial)))))))
noncomputable def S27 : Summary := sumI modeO eC1 f27 [] 400 [] [true, true]
theorem S27_ok : SumOk prog (fun _ => none) 27 S27 := sumI_ok eC1_ok hmC (fn := f27) (by kernel_rfl) (by kernel_rfl) [] FnOrc.nil 400 [] [true, true]
noncomputable def S31 : Summary := sumI modeO eC1 f31 [] 400 [] [true, true]
theorem S31_ok : SumOk prog (fun _ => none) 31 S31 := sumI_ok eC1_ok hmC (fn := f31) (by kernel_rfl) (by kernel_rfl) [] FnOrc.nil 400 [] [true, true]
noncomputable def S23 : Summary := sumI modeO eC1 f23 [] 400 [] []
theorem S23_ok : SumOk prog (fun _ => none) 23 S23 := sumI_ok eC1_ok hmC (fn := f23) (by kernel_rfl) (by kernel_rfl) [] FnOrc.nil 400 [] []
noncomputable def S18 : Summary := sumI modeO eC1 f18 [] 400 [] []
theorem S18_ok : SumOk prog (fun _ => none) 18 S18 := sumI_ok eC1_ok hmC (fn := f18) (by kernel_rfl) (by kernel_rfl) [] FnOrc.nil 400 [] []
end Go.Abs

set_option linter.unusedVariables false
set_option linter.unusedSimpArgs false
set_option maxRecDepth 8000
namespace Go.Abs
open Go.Proofs.Try
noncomputable def eC2 : Env := eC0 [(12, S12), (35, S35), (33, S33), (44, S44), (18, S18), (27, S27), (31, S31)]
theorem eC2_ok : EnvOk eC2 := envOf_ok tysC_ok (SumsOk.cons (fn := f12) S12_ok (by kernel_rfl) (by kernel_rfl) (by kernel_rfl) (SumsOk.cons (fn := f35) S35_ok (by kernel_rfl) (by kernel_rfl) (by kernel_rfl) (SumsOk.cons (fn := f33) S33_ok (by kernel_rfl) (by kernel_rfl) (by kernel_rfl)
  (SumsOk.cons (fn := f44) S44_ok (by kernel_rfl) (by kernel_rfl) (by kernel_rfl) (SumsOk.cons (fn := f18) S18_ok (by kernel_rfl) (by kernel_rfl) (by kernel_rfl) (SumsOk.cons (fn := f27) S27_ok (by kernel_rfl) (by kernel_rfl) (by kernel_rfl) (SumsOk.cons (fn := f31) S31_ok (by kernel_rfl) (by kernel_rfl) (by kernel_rfl) trivial)))))))
noncomputable def S10 : Summary := sumI modeO eC2 f10 [] 400 [] []
theorem S10_ok : SumOk prog (fun _ => none) 10 S10 := sumI_ok eC2_ok hmC (fn := f10) (by kernel_rfl) (by kernel_rfl) [] FnOrc.nil 400 [] []
noncomputable def S29 : Summary := sumI modeO eC2 f29 [] 400 [] [true, true]
theorem S29_ok : SumOk prog (fun _ => none) 29 S29 := sumI_ok eC2_ok hmC (fn := f29) (by kernel_rfl) (by kernel_rfl) [] FnOrc.nil 400 [] [true, true]
noncomputable def eC3 : Env := eC0 [(10, S10)]
theorem eC3_ok : EnvOk eC3 := envOf_ok tysC_ok (SumsOk.cons (fn := f10) S10_ok (by kernel_rfl) (by kernel_rfl) (by kernel_rfl) trivial)
noncomputable def S20 : Summary := sumI modeO eC3 f20 [] 400 [] []
theorem S20_ok : SumOk prog (fun _ => none) 20 S20 := sumI_ok eC3_ok hmC (fn := f20) (by kernel_rfl) (by kernel_rfl) [] FnOrc.nil 400 [] []
noncomputable def eC4 : Env := eC0 [(12, S12), (35, S35), (33, S33), (20, S20), (23, S23), (29, S29)]
theorem eC4_ok : EnvOk eC4 := envOf_ok tysC_ok (SumsOk.cons (fn := f12) S12_ok (by kernel_rfl) (by kernel_rfl) (by kernel_rfl) (SumsOk.cons (fn := f35) S35_ok (by kernel_rfl) (by kernel_rfl) (by kernel_rfl) (SumsOk.cons (fn := f33) S33_ok (by kernel_rfl) (by kernel_rfl) (by kernel_rfl)
  (SumsOk.cons (fn := f20) S20_ok (by kernel_rfl) (by kernel_rfl) (by kernel_rfl) (SumsOk.cons (fn := f23) S23_ok (by kernel_rfl) (by kernel_rfl) (by kernel_rfl) (SumsOk.cons (fn := f29) S29_ok (by kernel_rfl) (by kernel_rfl) (by kernel_rfl) trivial))))))
noncomputable def R13  : Res := runF eC4 f13 [] 400 [] [] []
theorem R13_ok  (h : allP []) : OkR (R13 ) := OkR.dem (fl := bitsF 228 431359146674409803981575447359250280951717684534915686597039442886655) (by kernel_rfl) (by kernel_rfl) (by kernel_rfl) h
theorem R13_val  : (R13 ).val = .bool true := by kernel_rfl
end Go.Abs

set_option linter.unusedVariables false
set_option linter.unusedSimpArgs false
set_option maxRecDepth 8000
namespace Go.Abs
open Go.Proofs.Try
def sm13 : Summary := fun args T => match args, T with
  | [], [] => ⟨[], .bool true, []⟩
  | _, _ => fail
theorem sm13_ok : SmOk prog (fun _ => none) 13 sm13 := by
  intro args T hc
  unfold sm13 at hc ⊢
  split at hc
  · have h := small_of (R := R13) eC4_ok hmC (f := 13) (fn := f13) (by kernel_rfl) (by kernel_rfl) FnOrc.nil rfl (R13_ok trivial) R13_val rfl
    exact small_drop h
  · exact absurd hc nofail
def S13 : Summary := callR sm13 []
theorem S13_ok : SumOk prog (fun _ => none) 13 S13 := callR_ok sm13_ok []
end Go.Abs

set_option linter.unusedVariables false
set_option linter.unusedSimpArgs false
set_option maxRecDepth 8000
namespace Go.Abs
open Go.Proofs.Try
/-! ### numbers as bytes: of the program -/
noncomputable def S39x : Summary := sumI modeO (eC0 []) f39 [] 100 [some false, some false, some false, some false] []
theorem S39x_ok : SumOk prog (fun _ => none) 39 S39x := sumI_ok eC0_ok hmC (fn := f39) (by kernel_rfl) (by kernel_rfl) [] FnOrc.nil 100 [some false, some false, some false, some false] []
noncomputable def eC1x : Env := eC0 [(39, S39x), (40, S40)]
theorem eC1x_ok : EnvOk eC1x := envOf_ok tysC_ok (SumsOk.cons (fn := f39) S39x_ok (by kernel_rfl) (by kernel_rfl) (by kernel_rfl) (SumsOk.cons (fn := f40) S40_ok (by kernel_rfl) (by kernel_rfl) (by kernel_rfl) trivial))
noncomputable def R16x (n size : Int) : Res := runF eC1x f16 [] 400 [.int .i64 n, .int .i64 size] [] []
theorem R16x_ok {n size : Int} (h : allP [.p ((size == 1) = false), .p ((size == 2) = false), .p ((size == 4) = false), .p ((size == 8) = false)]) : OkR (R16x n size) := OkR.dem (fl := [false, false, false, false]) (by kernel_rfl) (by kernel_rfl) (by kernel_rfl) h
theorem R16x_val {n size : Int} : (R16x n size).val = .tuple [.nilSlice, .int .i64 1] := by kernel_rfl
theorem R16x_tab {n size : Int} : (R16x n size).tab = [] := by kernel_rfl
noncomputable def R16_1 (n : Int) : Res := runF eC1 f16 [] 400 [.int .i64 n, .int .i64 1] [] [none, some false, some false]
theorem R16_1_ok {n : Int} (h : allP [.p (decide (n < 0) = false), .p ((n / 256 != 0) = false)]) : OkR (R16_1 n) := OkR.dem (fl := bitsF 20 1048565) (by kernel_rfl) (by kernel_rfl) (by kernel_rfl) h
theorem R16_1_val {n : Int} : (R16_1 n).val = .tuple [.slice 1 0 0 0 1 (some 1), .int .i64 0] := by kernel_rfl
theorem R16_1_tab {n : Int} : (R16_1 n).tab = [some ⟨.ints .u8 [n / 1 % 256], 0, true, 5⟩] := by kernel_rfl
noncomputable def R16_2 (n : Int) : Res := runF eC1 f16 [] 400 [.int .i64 n, .int .i64 2] [] [none, some false, some false]
theorem R16_2_ok {n : Int} (h : allP [.p (decide (n < 0) = false), .p ((n / 65536 != 0) = false)]) : OkR (R16_2 n) := OkR.dem (fl := bitsF 32 4294967285) (by kernel_rfl) (by kernel_rfl) (by kernel_rfl) h
theorem R16_2_val {n : Int} : (R16_2 n).val = .tuple [.slice 1 0 0 0 2 (some 2), .int .i64 0] := by kernel_rfl
theorem R16_2_tab {n : Int} : (R16_2 n).tab = [some ⟨.ints .u8 [n / 256 % 256, n / 1 % 256], 0, true, 5⟩] := by kernel_rfl
noncomputable def R16_4 (n : Int) : Res := runF eC1 f16 [] 400 [.int .i64 n, .int .i64 4] [] [none, some false, some false]
theorem R16_4_ok {n : Int} (h : allP [.p (decide (n < 0) = false), .p ((n / 4294967296 != 0) = false)]) : OkR (R16_4 n) := OkR.dem (fl := bitsF 56 72057594037927925) (by kernel_rfl) (by kernel_rfl) (by kernel_rfl) h
theorem R16_4_val {n : Int} : (R16_4 n).val = .tuple [.slice 1 0 0 0 4 (some 4), .int .i64 0] := by kernel_rfl
theorem R16_4_tab {n : Int} : (R16_4 n).tab = [some ⟨.ints .u8 [n / 16777216 % 256, n / 65536 % 256, n / 256 % 256, n / 1 % 256], 0, true, 5⟩] := by kernel_rfl
noncomputable def R16_8 (n : Int) : Res := runF eC1 f16 [] 400 [.int .i64 n, .int .i64 8] [] [none, some false, some false]
theorem R16_8_ok {n : Int} (h : allP [.p (decide (n < 0) = false), .p ((n / 4611686018427387904 != 0) = false)]) : OkR (R16_8 n) := OkR.dem (fl := bitsF 103 10141204801825835211973625643002) (by kernel_rfl) (by kernel_rfl) (by kernel_rfl) h
theorem R16_8_val {n : Int} : (R16_8 n).val = .tuple [.slice 1 0 0 0 8 (some 8), .int .i64 0] := by kernel_rfl
theorem R16_8_tab {n : Int} : (R16_8 n).tab = [some ⟨.ints .u8 [n / 72057594037927936 % 256, n / 281474976710656 % 256, n / 1099511627776 % 256, n / 4294967296 % 256, n / 16777216 % 256, n / 65536 % 256, n / 256 % 256, n / 1 % 256], 0, true, 5⟩] := by kernel_rfl
noncomputable def R16n_1 (n : Int) : Res := runF eC1 f16 [] 400 [.int .i64 n, .int .i64 1] [] [none, some true]
theorem R16n_1_ok {n : Int} (h : allP [.p (decide (n < 0) = true)]) : OkR (R16n_1 n) := OkR.dem (fl := [true, false]) (by kernel_rfl) (by kernel_rfl) (by kernel_rfl) h
theorem R16n_1_val {n : Int} : (R16n_1 n).val = .tuple [.nilSlice, .int .i64 11] := by kernel_rfl
theorem R16n_1_tab {n : Int} : (R16n_1 n).tab = [] := by kernel_rfl
noncomputable def R16n_2 (n : Int) : Res := runF eC1 f16 [] 400 [.int .i64 n, .int .i64 2] [] [none, some true]
theorem R16n_2_ok {n : Int} (h : allP [.p (decide (n < 0) = true)]) : OkR (R16n_2 n) := OkR.dem (fl := [true, false]) (by kernel_rfl) (by kernel_rfl) (by kernel_rfl) h
theorem R16n_2_val {n : Int} : (R16n_2 n).val = .tuple [.nilSlice, .int .i64 11] := by kernel_rfl
theorem R16n_2_tab {n : Int} : (R16n_2 n).tab = [] := by kernel_rfl
noncomputable def R16n_4 (n : Int) : Res := runF eC1 f16 [] 400 [.int .i64 n, .int .i64 4] [] [none, some true]
theorem R16n_4_ok {n : Int} (h : allP [.p (decide (n < 0) = true)]) : OkR (R16n_4 n) := OkR.dem (fl := [true, false]) (by kernel_rfl) (by kernel_rfl) (by kernel_rfl) h
theorem R16n_4_val {n : Int} : (R16n_4 n).val = .tuple [.nilSlice, .int .i64 11] := by kernel_rfl
theorem R16n_4_tab {n : Int} : (R16n_4 n).tab = [] := by kernel_rfl
noncomputable def R16n_8 (n : Int) : Res := runF eC1 f16 [] 400 [.int .i64 n, .int .i64 8] [] [none, some true]
theorem R16n_8_ok {n : Int} (h : allP [.p (decide (n < 0) = true)]) : OkR (R16n_8 n) := OkR.dem (fl := [false]) (by kernel_rfl) (by kernel_rfl) (by kernel_rfl) h
theorem R16n_8_val {n : Int} : (R16n_8 n).val = .tuple [.nilSlice, .int .i64 11] := by kernel_rfl
theorem R16n_8_tab {n : Int} : (R16n_8 n).tab = [] := by kernel_rfl
noncomputable def R16g_1 (n : Int) : Res := runF eC1 f16 [] 400 [.int .i64 n, .int .i64 1] [] [none, some false, some true]
theorem R16g_1_ok {n : Int} (h : allP [.p (decide (n < 0) = false), .p ((n / 256 != 0) = true)]) : OkR (R16g_1 n) := OkR.dem (fl := [true, false, true, false]) (by kernel_rfl) (by kernel_rfl) (by kernel_rfl) h
theorem R16g_1_val {n : Int} : (R16g_1 n).val = .tuple [.nilSlice, .int .i64 11] := by kernel_rfl
theorem R16g_1_tab {n : Int} : (R16g_1 n).tab = [] := by kernel_rfl
noncomputable def R16g_2 (n : Int) : Res := runF eC1 f16 [] 400 [.int .i64 n, .int .i64 2] [] [none, some false, some true]
theorem R16g_2_ok {n : Int} (h : allP [.p (decide (n < 0) = false), .p ((n / 65536 != 0) = true)]) : OkR (R16g_2 n) := OkR.dem (fl := [true, false, true, false]) (by kernel_rfl) (by kernel_rfl) (by kernel_rfl) h
theorem R16g_2_val {n : Int} : (R16g_2 n).val = .tuple [.nilSlice, .int .i64 11] := by kernel_rfl
theorem R16g_2_tab {n : Int} : (R16g_2 n).tab = [] := by kernel_rfl
noncomputable def R16g_4 (n : Int) : Res := runF eC1 f16 [] 400 [.int .i64 n, .int .i64 4] [] [none, some false, some true]
theorem R16g_4_ok {n : Int} (h : allP [.p (decide (n < 0) = false), .p ((n / 4294967296 != 0) = true)]) : OkR (R16g_4 n) := OkR.dem (fl := [true, false, true, false]) (by kernel_rfl) (by kernel_rfl) (by kernel_rfl) h
theorem R16g_4_val {n : Int} : (R16g_4 n).val = .tuple [.nilSlice, .int .i64 11] := by kernel_rfl
theorem R16g_4_tab {n : Int} : (R16g_4 n).tab = [] := by kernel_rfl
noncomputable def R16g_8 (n : Int) : Res := runF eC1 f16 [] 400 [.int .i64 n, .int .i64 8] [] [none, some false, some true]
theorem R16g_8_ok {n : Int} (h : allP [.p (decide (n < 0) = false), .p ((n / 4611686018427387904 != 0) = true)]) : OkR (R16g_8 n) := OkR.dem (fl := [false, true, false]) (by kernel_rfl) (by kernel_rfl) (by kernel_rfl) h
theorem R16g_8_val {n : Int} : (R16g_8 n).val = .tuple [.nilSlice, .int .i64 11] := by kernel_rfl
theorem R16g_8_tab {n : Int} : (R16g_8 n).tab = [] := by kernel_rfl
end Go.Abs

set_option linter.unusedVariables false
set_option linter.unusedSimpArgs false
set_option maxRecDepth 8000
namespace Go.Abs
open Go.Proofs.Try
def beLaw (n : Int) (size : Nat) : List Int := (List.range size).map fun j => n / 2 ^ (8 * (size - 1 - j)) % 256
def mostLaw (size : Int) : Int := if size = 1 then 256 else if size = 2 then 65536 else if size = 4 then 4294967296 else 4611686018427387904
def sizedLaw (size : Int) : Prop := size = 1 ∨ size = 2 ∨ size = 4 ∨ size = 8
instance (size : Int) : Decidable (sizedLaw size) := by unfold sizedLaw; exact inferInstance
def numLaw (n size : Int) : List Int := if sizedLaw size ∧ 0 ≤ n ∧ n < mostLaw size then beLaw n size.toNat else []
def numErrLaw (n size : Int) : Int := if sizedLaw size then (if 0 ≤ n ∧ n < mostLaw size then 0 else 11) else 1
theorem num_in {n size : Int} (hs : sizedLaw size) (h : 0 ≤ n ∧ n < mostLaw size) : numLaw n size = beLaw n size.toNat ∧ numErrLaw n size = 0 := by
  unfold numLaw numErrLaw; rw [if_pos ⟨hs, h⟩, if_pos hs, if_pos h]; exact ⟨rfl, rfl⟩
theorem num_out {n size : Int} (hs : sizedLaw size) (h : ¬ (0 ≤ n ∧ n < mostLaw size)) : numLaw n size = [] ∧ numErrLaw n size = 11 := by
  unfold numLaw numErrLaw; rw [if_neg (fun x => h x.2), if_pos hs, if_neg h]; exact ⟨rfl, rfl⟩
theorem num_bad {n size : Int} (hs : ¬ sizedLaw size) : numLaw n size = [] ∧ numErrLaw n size = 1 := by
  unfold numLaw numErrLaw; rw [if_neg (fun x => hs x.1), if_neg hs]; exact ⟨rfl, rfl⟩
def num16Law (n size : Int) : AVal := .tuple [.slice 1 0 0 0 (numLaw n size).length (some (numLaw n size).length), .int .i64 (numErrLaw n size)]
theorem bad16 {n size : Int} (hs : ¬ sizedLaw size) : Small prog (fun _ => none) 16 [.int .i64 n, .int .i64 size] [] (num16Law n size) [some ⟨.ints .u8 (numLaw n size), 0, true, 5⟩] := by
  unfold num16Law
  rw [(num_bad hs).1, (num_bad hs).2]
  unfold sizedLaw at hs
  exact small_nil2 .u8 5 (.inl rfl) (small_of (R := R16x n size) eC1x_ok hmC (f := 16) (fn := f16) (by kernel_rfl) (by kernel_rfl) FnOrc.nil rfl (R16x_ok (by simp [allP, Con.h]; omega)) R16x_val R16x_tab) (Nat.le_refl 0)

theorem in16_1 {n : Int} (h : 0 ≤ n ∧ n < 256) : Small prog (fun _ => none) 16 [.int .i64 n, .int .i64 1] [] (num16Law n 1) [some ⟨.ints .u8 (numLaw n 1), 0, true, 5⟩] := by
  have hm : 0 ≤ n ∧ n < mostLaw 1 := h
  have e := num_in (n := n) (size := 1) (by decide) hm
  unfold num16Law
  rw [e.1, e.2]
  have eb : beLaw n (Int.toNat 1) = [n / 1 % 256] := by kernel_rfl
  rw [eb]
  have hd : n / 256 = 0 := by omega
  exact small_of (R := R16_1 n) eC1_ok hmC (f := 16) (fn := f16) (by kernel_rfl) (by kernel_rfl) FnOrc.nil rfl (R16_1_ok (by simp [allP, Con.h, hd]; omega)) R16_1_val R16_1_tab
theorem out16_1 {n : Int} (h : ¬ (0 ≤ n ∧ n < 256)) : Small prog (fun _ => none) 16 [.int .i64 n, .int .i64 1] [] (num16Law n 1) [some ⟨.ints .u8 (numLaw n 1), 0, true, 5⟩] := by
  have hm : ¬ (0 ≤ n ∧ n < mostLaw 1) := h
  have e := num_out (n := n) (size := 1) (by decide) hm
  unfold num16Law
  rw [e.1, e.2]
  by_cases h0 : n < 0
  · exact small_nil2 .u8 5 (.inl rfl) (small_of (R := R16n_1 n) eC1_ok hmC (f := 16) (fn := f16) (by kernel_rfl) (by kernel_rfl) FnOrc.nil rfl (R16n_1_ok (by simp [allP, Con.h]; omega)) R16n_1_val R16n_1_tab) (Nat.le_refl 0)
  · have hd : n / 256 ≠ 0 := by omega
    exact small_nil2 .u8 5 (.inl rfl) (small_of (R := R16g_1 n) eC1_ok hmC (f := 16) (fn := f16) (by kernel_rfl) (by kernel_rfl) FnOrc.nil rfl (R16g_1_ok (by simp [allP, Con.h, hd]; omega)) R16g_1_val R16g_1_tab) (Nat.le_refl 0)
theorem in16_2 {n : Int} (h : 0 ≤ n ∧ n < 65536) : Small prog (fun _ => none) 16 [.int .i64 n, .int .i64 2] [] (num16Law n 2) [some ⟨.ints .u8 (numLaw n 2), 0, true, 5⟩] := by
  have hm : 0 ≤ n ∧ n < mostLaw 2 := h
  have e := num_in (n := n) (size := 2) (by decide) hm
  unfold num16Law
  rw [e.1, e.2]
  have eb : beLaw n (Int.toNat 2) = [n / 256 % 256, n / 1 % 256] := by kernel_rfl
  rw [eb]
  have hd : n / 65536 = 0 := by omega
  exact small_of (R := R16_2 n) eC1_ok hmC (f := 16) (fn := f16) (by kernel_rfl) (by kernel_rfl) FnOrc.nil rfl (R16_2_ok (by simp [allP, Con.h, hd]; omega)) R16_2_val R16_2_tab
theorem out16_2 {n : Int} (h : ¬ (0 ≤ n ∧ n < 65536)) : Small prog (fun _ => none) 16 [.int .i64 n, .int .i64 2] [] (num16Law n 2) [some ⟨.ints .u8 (numLaw n 2), 0, true, 5⟩] := by
  have hm : ¬ (0 ≤ n ∧ n < mostLaw 2) := h
  have e := num_out (n := n) (size := 2) (by decide) hm
  unfold num16Law
  rw [e.1, e.2]
  by_cases h0 : n < 0
  · exact small_nil2 .u8 5 (.inl rfl) (small_of (R := R16n_2 n) eC1_ok hmC (f := 16) (fn := f16) (by kernel_rfl) (by kernel_rfl) FnOrc.nil rfl (R16n_2_ok (by simp [allP, Con.h]; omega)) R16n_2_val R16n_2_tab) (Nat.le_refl 0)
  · have hd : n / 65536 ≠ 0 := by omega
    exact small_nil2 .u8 5 (.inl rfl) (small_of (R := R16g_2 n) eC1_ok hmC (f := 16) (fn := f16) (by kernel_rfl) (by kernel_rfl) FnOrc.nil rfl (R16g_2_ok (by simp [allP, Con.h, hd]; omega)) R16g_2_val R16g_2_tab) (Nat.le_refl 0)
theorem in16_4 {n : Int} (h : 0 ≤ n ∧ n < 4294967296) : Small prog (fun _ => none) 16 [.int .i64 n, .int .i64 4] [] (num16Law n 4) [some ⟨.ints .u8 (numLaw n 4), 0, true, 5⟩] := by
  have hm : 0 ≤ n ∧ n < mostLaw 4 := h
  have e := num_in (n := n) (size := 4) (by decide) hm
  unfold num16Law
  rw [e.1, e.2]
  have eb : beLaw n (Int.toNat 4) = [n / 16777216 % 256, n / 65536 % 256, n / 256 % 256, n / 1 % 256] := by kernel_rfl
  rw [eb]
  have hd : n / 4294967296 = 0 := by omega
  exact small_of (R := R16_4 n) eC1_ok hmC (f := 16) (fn := f16) (by kernel_rfl) (by kernel_rfl) FnOrc.nil rfl (R16_4_ok (by simp [allP, Con.h, hd]; omega)) R16_4_val R16_4_tab
theorem out16_4 {n : Int} (h : ¬ (0 ≤ n ∧ n < 4294967296)) : Small prog (fun _ => none) 16 [.int .i64 n, .int .i64 4] [] (num16Law n 4) [some ⟨.ints .u8 (numLaw n 4), 0, true, 5⟩] := by
  have hm : ¬ (0 ≤ n ∧ n < mostLaw 4) := h
  have e := num_out (n := n) (size := 4) (by decide) hm
  unfold num16Law
  rw [e.1, e.2]
  by_cases h0 : n < 0
  · exact small_nil2 .u8 5 (.inl rfl) (small_of (R := R16n_4 n) eC1_ok hmC (f := 16) (fn := f16) (by kernel_rfl) (by kernel_rfl) FnOrc.nil rfl (R16n_4_ok (by simp [allP, Con.h]; omega)) R16n_4_val R16n_4_tab) (Nat.le_refl 0)
  · have hd : n / 4294967296 ≠ 0 := by omega
    exact small_nil2 .u8 5 (.inl rfl) (small_of (R := R16g_4 n) eC1_ok hmC (f := 16) (fn := f16) (by kernel_rfl) (by kernel_rfl) FnOrc.nil rfl (R16g_4_ok (by simp [allP, Con.h, hd]; omega)) R16g_4_val R16g_4_tab) (Nat.le_refl 0)
theorem in16_8 {n : Int} (h : 0 ≤ n ∧ n < 4611686018427387904) : Small prog (fun _ => none) 16 [.int .i64 n, .int .i64 8] [] (num16Law n 8) [some ⟨.ints .u8 (numLaw n 8), 0, true, 5⟩] := by
  have hm : 0 ≤ n ∧ n < mostLaw 8 := h
  have e := num_in (n := n) (size := 8) (by decide) hm
  unfold num16Law
  rw [e.1, e.2]
  have eb : beLaw n (Int.toNat 8) = [n / 72057594037927936 % 256, n / 281474976710656 % 256, n / 1099511627776 % 256, n / 4294967296 % 256, n / 16777216 % 256, n / 65536 % 256, n / 256 % 256, n / 1 % 256] := by kernel_rfl
  rw [eb]
  have hd : n / 4611686018427387904 = 0 := by omega
  exact small_of (R := R16_8 n) eC1_ok hmC (f := 16) (fn := f16) (by kernel_rfl) (by kernel_rfl) FnOrc.nil rfl (R16_8_ok (by simp [allP, Con.h, hd]; omega)) R16_8_val R16_8_tab
theorem out16_8 {n : Int} (h : ¬ (0 ≤ n ∧ n < 4611686018427387904)) : Small prog (fun _ => none) 16 [.int .i64 n, .int .i64 8] [] (num16Law n 8) [some ⟨.ints .u8 (numLaw n 8), 0, true, 5⟩] := by
  have hm : ¬ (0 ≤ n ∧ n < mostLaw 8) := h
  have e := num_out (n := n) (size := 8) (by decide) hm
  unfold num16Law
  rw [e.1, e.2]
  by_cases h0 : n < 0
  · exact small_nil2 .u8 5 (.inl rfl) (small_of (R := R16n_8 n) eC1_ok hmC (f := 16) (fn := f16) (by kernel_rfl) (by kernel_rfl) FnOrc.nil rfl (R16n_8_ok (by simp [allP, Con.h]; omega)) R16n_8_val R16n_8_tab) (Nat.le_refl 0)
  · have hd : n / 4611686018427387904 ≠ 0 := by omega
    exact small_nil2 .u8 5 (.inl rfl) (small_of (R := R16g_8 n) eC1_ok hmC (f := 16) (fn := f16) (by kernel_rfl) (by kernel_rfl) FnOrc.nil rfl (R16g_8_ok (by simp [allP, Con.h, hd]; omega)) R16g_8_val R16g_8_tab) (Nat.le_refl 0)
def sm16 : Summary := fun args T => match args, T with
  | [.int .i64 n, .int .i64 size], [] => ⟨[], num16Law n size, [some ⟨.ints .u8 (numLaw n size), 0, true, 5⟩]⟩
  | _, _ => fail
theorem sm16_ok : SmOk prog (fun _ => none) 16 sm16 := by
  intro args T hc
  unfold sm16 at hc ⊢
  split at hc
  · rename_i n size
    by_cases hs : sizedLaw size
    · rcases hs with rfl | rfl | rfl | rfl
      · by_cases h : 0 ≤ n ∧ n < 256
        · exact in16_1 h
        · exact out16_1 h
      · by_cases h : 0 ≤ n ∧ n < 65536
        · exact in16_2 h
        · exact out16_2 h
      · by_cases h : 0 ≤ n ∧ n < 4294967296
        · exact in16_4 h
        · exact out16_4 h
      · by_cases h : 0 ≤ n ∧ n < 4611686018427387904
        · exact in16_8 h
        · exact out16_8 h
    · exact bad16 hs
  · exact absurd hc nofail
def S16 : Summary := callR sm16 []
theorem S16_ok : SumOk prog (fun _ => none) 16 S16 := callR_ok sm16_ok []
end Go.Abs

set_option linter.unusedVariables false
set_option linter.unusedSimpArgs false
set_option maxRecDepth 8000
namespace Go.Abs
open Go.Proofs.Try
/-! ### lengths -/
def lenLaw (n : Int) : List Int :=
  if n < 0 ∨ 1073741824 ≤ n then [] else if n < 64 then [n / 1 % 256] else if n < 16384 then [(n + 16384) / 256 % 256, (n + 16384) / 1 % 256]
  else [(n + 2147483648) / 16777216 % 256, (n + 2147483648) / 65536 % 256, (n + 2147483648) / 256 % 256, (n + 2147483648) / 1 % 256]
def lenErrLaw (n : Int) : Int := if n < 0 ∨ 1073741824 ≤ n then 11 else 0
theorem ior_add {a b : Int} {k : Nat} (ha : 0 ≤ a) (hk : a < 2 ^ k) (hb : 0 ≤ b) : ior a (b * 2 ^ k) = a + b * 2 ^ k := by
  obtain ⟨m, rfl⟩ := Int.eq_ofNat_of_zero_le ha
  obtain ⟨c, rfl⟩ := Int.eq_ofNat_of_zero_le hb
  have hm : m < 2 ^ k := by exact_mod_cast hk
  have e : ((c : Int) * 2 ^ k).toNat = c <<< k := by rw [Nat.shiftLeft_eq]; exact_mod_cast Int.toNat_natCast _
  unfold ior
  rw [e, Int.toNat_natCast, Nat.or_comm, ← Nat.shiftLeft_add_eq_or_of_lt hm, Nat.shiftLeft_eq]
  push_cast
  omega
noncomputable def R18a (n : Int) : Res := runF eC1 f18 [] 400 [.int .i64 n] [] [none, some true, some true]
theorem R18a_ok {n : Int} (h : allP [.p (decide (0 ≤ n) = true), .p ((n / 64 == 0) = true), .nn .i64 n]) : OkR (R18a n) := OkR.dem (fl := bitsF 29 536868795) (by kernel_rfl) (by kernel_rfl) (by kernel_rfl) h
theorem R18a_val {n : Int} : (R18a n).val = .tuple [.slice 1 0 0 0 1 (some 1), .int .i64 0] := by kernel_rfl
theorem R18a_tab {n : Int} : (R18a n).tab = [some ⟨.ints .u8 [ior n 0 / 1 % 256], 0, true, 5⟩] := by kernel_rfl
noncomputable def R18b (n : Int) : Res := runF eC1 f18 [] 400 [.int .i64 n] [] [none, some true, some false, none, some true, some true]
theorem R18b_ok {n : Int} (h : allP [.p (decide (0 ≤ n) = true), .p ((n / 64 == 0) = false), .p (decide (0 ≤ n) = true), .p ((n / 16384 == 0) = true), .nn .i64 n]) : OkR (R18b n) := OkR.dem (fl := bitsF 49 562949952879547) (by kernel_rfl) (by kernel_rfl) (by kernel_rfl) h
theorem R18b_val {n : Int} : (R18b n).val = .tuple [.slice 1 0 0 0 2 (some 2), .int .i64 0] := by kernel_rfl
theorem R18b_tab {n : Int} : (R18b n).tab = [some ⟨.ints .u8 [ior n 16384 / 256 % 256, ior n 16384 / 1 % 256], 0, true, 5⟩] := by kernel_rfl
noncomputable def R18c (n : Int) : Res := runF eC1 f18 [] 400 [.int .i64 n] [] [none, some true, some false, none, some true, some false, none, some true, some true]
theorem R18c_ok {n : Int} (h : allP [.p (decide (0 ≤ n) = true), .p ((n / 64 == 0) = false), .p (decide (0 ≤ n) = true), .p ((n / 16384 == 0) = false), .p (decide (0 ≤ n) = true), .p ((n / 1073741824 == 0) = true), .nn .i64 n]) : OkR (R18c n) := OkR.dem (fl := bitsF 81 2417851639229258210720699) (by kernel_rfl) (by kernel_rfl) (by kernel_rfl) h
theorem R18c_val {n : Int} : (R18c n).val = .tuple [.slice 1 0 0 0 4 (some 4), .int .i64 0] := by kernel_rfl
theorem R18c_tab {n : Int} : (R18c n).tab = [some ⟨.ints .u8 [ior n 2147483648 / 16777216 % 256, ior n 2147483648 / 65536 % 256, ior n 2147483648 / 256 % 256, ior n 2147483648 / 1 % 256], 0, true, 5⟩] := by kernel_rfl
noncomputable def R18d (n : Int) : Res := runF eC1 f18 [] 400 [.int .i64 n] [] [none, some false, none, some false, none, some false]
theorem R18d_ok {n : Int} (h : allP [.p (decide (0 ≤ n) = false), .p (decide (0 ≤ n) = false), .p (decide (0 ≤ n) = false)]) : OkR (R18d n) := OkR.dem (fl := bitsF 12 3003) (by kernel_rfl) (by kernel_rfl) (by kernel_rfl) h
theorem R18d_val {n : Int} : (R18d n).val = .tuple [.nilSlice, .int .i64 11] := by kernel_rfl
theorem R18d_tab {n : Int} : (R18d n).tab = [] := by kernel_rfl
noncomputable def R18e (n : Int) : Res := runF eC1 f18 [] 400 [.int .i64 n] [] [none, some true, some false, none, some true, some false, none, some true, some false]
theorem R18e_ok {n : Int} (h : allP [.p (decide (0 ≤ n) = true), .p ((n / 64 == 0) = false), .p (decide (0 ≤ n) = true), .p ((n / 16384 == 0) = false), .p (decide (0 ≤ n) = true), .p ((n / 1073741824 == 0) = false)]) : OkR (R18e n) := OkR.dem (fl := bitsF 24 12303291) (by kernel_rfl) (by kernel_rfl) (by kernel_rfl) h
theorem R18e_val {n : Int} : (R18e n).val = .tuple [.nilSlice, .int .i64 11] := by kernel_rfl
theorem R18e_tab {n : Int} : (R18e n).tab = [] := by kernel_rfl
end Go.Abs

set_option linter.unusedVariables false
set_option linter.unusedSimpArgs false
set_option maxRecDepth 8000
namespace Go.Abs
open Go.Proofs.Try
theorem ior_64 {n : Int} (h : 0 ≤ n) : ior n 0 = n := by
  obtain ⟨m, rfl⟩ := Int.eq_ofNat_of_zero_le h
  simp [ior]
theorem ior_16384 {n : Int} (h : 0 ≤ n) (h2 : n < 16384) : ior n 16384 = n + 16384 := ior_add (k := 14) (b := 1) h h2 (by decide)
theorem ior_31 {n : Int} (h : 0 ≤ n) (h2 : n < 1073741824) : ior n 2147483648 = n + 2147483648 := ior_add (k := 30) (b := 2) h h2 (by decide)
theorem len_a {n : Int} (h : 0 ≤ n) (h2 : n < 64) : lenLaw n = [n / 1 % 256] ∧ lenErrLaw n = 0 := by
  unfold lenLaw lenErrLaw; rw [if_neg (by omega), if_pos h2, if_neg (by omega)]; exact ⟨rfl, rfl⟩
theorem len_b {n : Int} (h : 64 ≤ n) (h2 : n < 16384) : lenLaw n = [(n + 16384) / 256 % 256, (n + 16384) / 1 % 256] ∧ lenErrLaw n = 0 := by
  unfold lenLaw lenErrLaw; rw [if_neg (by omega), if_neg (by omega), if_pos h2, if_neg (by omega)]; exact ⟨rfl, rfl⟩
theorem len_c {n : Int} (h : 16384 ≤ n) (h2 : n < 1073741824) : lenLaw n = [(n + 2147483648) / 16777216 % 256, (n + 2147483648) / 65536 % 256, (n + 2147483648) / 256 % 256, (n + 2147483648) / 1 % 256] ∧ lenErrLaw n = 0 := by
  unfold lenLaw lenErrLaw; rw [if_neg (by omega), if_neg (by omega), if_neg (by omega), if_neg (by omega)]; exact ⟨rfl, rfl⟩
theorem len_d {n : Int} (h : n < 0 ∨ 1073741824 ≤ n) : lenLaw n = [] ∧ lenErrLaw n = 11 := by
  unfold lenLaw lenErrLaw; rw [if_pos h, if_pos h]; exact ⟨rfl, rfl⟩
theorem lenLaw_len (n : Int) : (lenLaw n).length ≤ 4 := by
  unfold lenLaw; split
  · simp
  · split
    · simp
    · split <;> simp
def len18Law (n : Int) : AVal := .tuple [.slice 1 0 0 0 (lenLaw n).length (some (lenLaw n).length), .int .i64 (lenErrLaw n)]
def sm18 : Summary := fun args T => match args, T with
  | [.int .i64 n], [] => ⟨[], len18Law n, [some ⟨.ints .u8 (lenLaw n), 0, true, 5⟩]⟩
  | _, _ => fail
theorem nn_i64 {n : Int} (h : 0 ≤ n) (h2 : n < 1073741824) : nonneg .i64 n := ⟨h, by omega⟩
theorem sm18_ok : SmOk prog (fun _ => none) 18 sm18 := by
  intro args T hc
  unfold sm18 at hc ⊢
  split at hc
  · rename_i n
    simp only
    unfold len18Law
    by_cases h0 : n < 0
    · rw [(len_d (.inl h0)).1, (len_d (.inl h0)).2]
      exact small_nil2 .u8 5 (.inl rfl) (small_of (R := R18d n) eC1_ok hmC (f := 18) (fn := f18) (by kernel_rfl) (by kernel_rfl) FnOrc.nil rfl (R18d_ok (by simp [allP, Con.h]; omega)) R18d_val R18d_tab) (Nat.le_refl 0)
    by_cases h1 : 1073741824 ≤ n
    · rw [(len_d (.inr h1)).1, (len_d (.inr h1)).2]
      have d1 : n / 64 ≠ 0 := by omega
      have d2 : n / 16384 ≠ 0 := by omega
      have d3 : n / 1073741824 ≠ 0 := by omega
      exact small_nil2 .u8 5 (.inl rfl) (small_of (R := R18e n) eC1_ok hmC (f := 18) (fn := f18) (by kernel_rfl) (by kernel_rfl) FnOrc.nil rfl (R18e_ok (by simp [allP, Con.h, d1, d2, d3]; omega)) R18e_val R18e_tab) (Nat.le_refl 0)
    have hn := nn_i64 (n := n) (by omega) (by omega)
    by_cases h2 : n < 64
    · have e := len_a (n := n) (by omega) h2
      rw [e.1, e.2]
      have d1 : n / 64 = 0 := by omega
      exact small_of (R := R18a n) eC1_ok hmC (f := 18) (fn := f18) (by kernel_rfl) (by kernel_rfl) FnOrc.nil rfl (R18a_ok (by simp [allP, Con.h, d1, hn]; omega)) R18a_val (by rw [R18a_tab, ior_64 (by omega)])
    by_cases h3 : n < 16384
    · have e := len_b (n := n) (by omega) h3
      rw [e.1, e.2]
      have d1 : n / 64 ≠ 0 := by omega
      have d2 : n / 16384 = 0 := by omega
      exact small_of (R := R18b n) eC1_ok hmC (f := 18) (fn := f18) (by kernel_rfl) (by kernel_rfl) FnOrc.nil rfl (R18b_ok (by simp [allP, Con.h, d1, d2, hn]; omega)) R18b_val (by rw [R18b_tab, ior_16384 (by omega) h3])
    · have e := len_c (n := n) (by omega) (by omega)
      rw [e.1, e.2]
      have d1 : n / 64 ≠ 0 := by omega
      have d2 : n / 16384 ≠ 0 := by omega
      have d3 : n / 1073741824 = 0 := by omega
      exact small_of (R := R18c n) eC1_ok hmC (f := 18) (fn := f18) (by kernel_rfl) (by kernel_rfl) FnOrc.nil rfl (R18c_ok (by simp [allP, Con.h, d1, d2, d3, hn]; omega)) R18c_val (by rw [R18c_tab, ior_31 (by omega) (by omega)])
  · exact absurd hc nofail
def S18c : Summary := callR sm18 []
theorem S18c_ok : SumOk prog (fun _ => none) 18 S18c := callR_ok sm18_ok []
end Go.Abs

set_option linter.unusedVariables false
set_option linter.unusedSimpArgs false
set_option maxRecDepth 8000
namespace Go.Abs
open Go.Proofs.Try
def subLaw (zs : List Int) (off n : Nat) : List Int := (zs.drop off).take n
end Go.Abs

set_option linter.unusedVariables false
set_option linter.unusedSimpArgs false
set_option maxRecDepth 100000
set_option maxHeartbeats 4000000
namespace Go.Abs
open Go.Proofs Go.Proofs.Try
/-! ### a reader's number of so many bytes -/
def ByLaw (zs : List Int) : Prop := ∀ i, 0 ≤ zs.getD i 0 ∧ zs.getD i 0 < 256
def beN : Nat → List Int → Nat → Int
  | 0, _, _ => 0
  | k + 1, B, off => beN k B off * 256 + B.getD (off + k) 0
def numAtLaw (k : Nat) (B : List Int) (off : Nat) : Int := beN k B off
def LowLaw (B : List Int) (off : Nat) (size : Int) : Prop := size = 8 → B.getD off 0 < 64
theorem ior_low {a b : Int} (ha : 0 ≤ a) (h0 : 0 ≤ b) (h1 : b < 256) : ior (a * 256) b = a * 256 + b := by
  obtain ⟨n, rfl⟩ := Int.eq_ofNat_of_zero_le ha
  obtain ⟨m, rfl⟩ := Int.eq_ofNat_of_zero_le h0
  unfold ior
  rw [show ((n : Int) * 256).toNat = n * 256 by omega, Int.toNat_natCast]
  have := Nat.shiftLeft_add_eq_or_of_lt (i := 8) (b := m) (by omega) n
  rw [Nat.shiftLeft_eq] at this
  rw [show (256 : Nat) = 2 ^ 8 by rfl, ← this]
  omega
theorem ior_zero {b : Int} (h0 : 0 ≤ b) : ior 0 b = b := by
  unfold ior
  simp
  omega
noncomputable def R45_1 (B : List Int) (g gR off len : Nat) (e : Int) : Res := runF (eC0 []) f45 [] 400 [.var 0 gR, .int .i64 1] [some ⟨.agg [.slice 1 1 g off len none, .int .i64 e, .bool true], gR, false, 60⟩, some ⟨.ints .u8 B, g, false, 5⟩] []
theorem R45_1_ok {B : List Int} {g gR off len : Nat} {e : Int} (h : allP [.eqN gR gR, .eqN gR gR, .eqN gR gR, .eqN g g, .orN 1 len (off + 1) B.length, .eqN g g, .eqN g g, .eqN g g, .leN (addO (addO off 0) 0 + 1) B.length, .rng (-9223372036854775808) (B.getD (addO (addO off 0) 0) 0) 9223372036854775807, .nn .i64 (B.getD (addO (addO off 0) 0) 0)]) : OkR (R45_1 B g gR off len e) := OkR.dem (fl :=
 bitsF 20 707672) (by kernel_rfl) (by kernel_rfl) (by kernel_rfl) h
theorem R45_1_val {B : List Int} {g gR off len : Nat} {e : Int} : (R45_1 B g gR off len e).val = .int .i64 (ior 0 (B.getD (addO (addO off 0) 0) 0)) := by kernel_rfl
theorem R45_1_tab {B : List Int} {g gR off len : Nat} {e : Int} : (R45_1 B g gR off len e).tab = [some ⟨.agg [.slice 1 1 g off len none, .int .i64 e, .bool true], gR, false, 60⟩, some ⟨.ints .u8 B, g, false, 5⟩] := by kernel_rfl
noncomputable def R45_2 (B : List Int) (g gR off len : Nat) (e : Int) : Res := runF (eC0 []) f45 [] 400 [.var 0 gR, .int .i64 2] [some ⟨.agg [.slice 1 1 g off len none, .int .i64 e, .bool true], gR, false, 60⟩, some ⟨.ints .u8 B, g, false, 5⟩] []
theorem R45_2_ok {B : List Int} {g gR off len : Nat} {e : Int} (h : allP [.eqN gR gR, .eqN gR gR, .eqN gR gR, .eqN g g, .orN 2 len (off + 2) B.length, .eqN g g, .eqN g g, .eqN g g, .leN (addO (addO off 0) 0 + 1) B.length, .rng (-9223372036854775808) (B.getD (addO (addO off 0) 0) 0) 9223372036854775807, .nn .i64 (B.getD (addO (addO off 0) 0) 0), .eqN g g, .eqN g g, .leN (addO (addO off 0) 1 + 1)
 B.length, .rng (-9223372036854775808) (ior 0 (B.getD (addO (addO off 0) 0) 0) * 256) 9223372036854775807, .rng (-9223372036854775808) (B.getD (addO (addO off 0) 1) 0) 9223372036854775807, .nn .i64 (ior 0 (B.getD (addO (addO off 0) 0) 0) * 256), .nn .i64 (B.getD (addO (addO off 0) 1) 0)]) : OkR (R45_2 B g gR off len e) := OkR.dem (fl := bitsF 31 1114295384) (by kernel_rfl) (by kernel_rfl) (by
 kernel_rfl) h
theorem R45_2_val {B : List Int} {g gR off len : Nat} {e : Int} : (R45_2 B g gR off len e).val = .int .i64 (ior (ior 0 (B.getD (addO (addO off 0) 0) 0) * 256) (B.getD (addO (addO off 0) 1) 0)) := by kernel_rfl
theorem R45_2_tab {B : List Int} {g gR off len : Nat} {e : Int} : (R45_2 B g gR off len e).tab = [some ⟨.agg [.slice 1 1 g off len none, .int .i64 e, .bool true], gR, false, 60⟩, some ⟨.ints .u8 B, g, false, 5⟩] := by kernel_rfl
noncomputable def R45_4 (B : List Int) (g gR off len : Nat) (e : Int) : Res := runF (eC0 []) f45 [] 400 [.var 0 gR, .int .i64 4] [some ⟨.agg [.slice 1 1 g off len none, .int .i64 e, .bool true], gR, false, 60⟩, some ⟨.ints .u8 B, g, false, 5⟩] []
theorem R45_4_ok {B : List Int} {g gR off len : Nat} {e : Int} (h : allP [.eqN gR gR, .eqN gR gR, .eqN gR gR, .eqN g g, .orN 4 len (off + 4) B.length, .eqN g g, .eqN g g, .eqN g g, .leN (addO (addO off 0) 0 + 1) B.length, .rng (-9223372036854775808) (B.getD (addO (addO off 0) 0) 0) 9223372036854775807, .nn .i64 (B.getD (addO (addO off 0) 0) 0), .eqN g g, .eqN g g, .leN (addO (addO off 0) 1 + 1)
 B.length, .rng (-9223372036854775808) (ior 0 (B.getD (addO (addO off 0) 0) 0) * 256) 9223372036854775807, .rng (-9223372036854775808) (B.getD (addO (addO off 0) 1) 0) 9223372036854775807, .nn .i64 (ior 0 (B.getD (addO (addO off 0) 0) 0) * 256), .nn .i64 (B.getD (addO (addO off 0) 1) 0), .eqN g g, .eqN g g, .leN (addO (addO off 0) 2 + 1) B.length, .rng (-9223372036854775808) (ior (ior 0 (B.getD
 (addO (addO off 0) 0) 0) * 256) (B.getD (addO (addO off 0) 1) 0) * 256) 9223372036854775807, .rng (-9223372036854775808) (B.getD (addO (addO off 0) 2) 0) 9223372036854775807, .nn .i64 (ior (ior 0 (B.getD (addO (addO off 0) 0) 0) * 256) (B.getD (addO (addO off 0) 1) 0) * 256), .nn .i64 (B.getD (addO (addO off 0) 2) 0), .eqN g g, .eqN g g, .leN (addO (addO off 0) 3 + 1) B.length, .rng
 (-9223372036854775808) (ior (ior (ior 0 (B.getD (addO (addO off 0) 0) 0) * 256) (B.getD (addO (addO off 0) 1) 0) * 256) (B.getD (addO (addO off 0) 2) 0) * 256) 9223372036854775807, .rng (-9223372036854775808) (B.getD (addO (addO off 0) 3) 0) 9223372036854775807, .nn .i64 (ior (ior (ior 0 (B.getD (addO (addO off 0) 0) 0) * 256) (B.getD (addO (addO off 0) 1) 0) * 256) (B.getD (addO (addO off 0) 2) 0)
 * 256), .nn .i64 (B.getD (addO (addO off 0) 3) 0)]) : OkR (R45_4 B g gR off len e) := OkR.dem (fl := bitsF 53 4673007136722008) (by kernel_rfl) (by kernel_rfl) (by kernel_rfl) h
theorem R45_4_val {B : List Int} {g gR off len : Nat} {e : Int} : (R45_4 B g gR off len e).val = .int .i64 (ior (ior (ior (ior 0 (B.getD (addO (addO off 0) 0) 0) * 256) (B.getD (addO (addO off 0) 1) 0) * 256) (B.getD (addO (addO off 0) 2) 0) * 256) (B.getD (addO (addO off 0) 3) 0)) := by kernel_rfl
theorem R45_4_tab {B : List Int} {g gR off len : Nat} {e : Int} : (R45_4 B g gR off len e).tab = [some ⟨.agg [.slice 1 1 g off len none, .int .i64 e, .bool true], gR, false, 60⟩, some ⟨.ints .u8 B, g, false, 5⟩] := by kernel_rfl
noncomputable def R45_8 (B : List Int) (g gR off len : Nat) (e : Int) : Res := runF (eC0 []) f45 [] 400 [.var 0 gR, .int .i64 8] [some ⟨.agg [.slice 1 1 g off len none, .int .i64 e, .bool true], gR, false, 60⟩, some ⟨.ints .u8 B, g, false, 5⟩] []
theorem R45_8_ok {B : List Int} {g gR off len : Nat} {e : Int} (h : allP [.eqN gR gR, .eqN gR gR, .eqN gR gR, .eqN g g, .orN 8 len (off + 8) B.length, .eqN g g, .eqN g g, .eqN g g, .leN (addO (addO off 0) 0 + 1) B.length, .rng (-9223372036854775808) (B.getD (addO (addO off 0) 0) 0) 9223372036854775807, .nn .i64 (B.getD (addO (addO off 0) 0) 0), .eqN g g, .eqN g g, .leN (addO (addO off 0) 1 + 1)
 B.length, .rng (-9223372036854775808) (ior 0 (B.getD (addO (addO off 0) 0) 0) * 256) 9223372036854775807, .rng (-9223372036854775808) (B.getD (addO (addO off 0) 1) 0) 9223372036854775807, .nn .i64 (ior 0 (B.getD (addO (addO off 0) 0) 0) * 256), .nn .i64 (B.getD (addO (addO off 0) 1) 0), .eqN g g, .eqN g g, .leN (addO (addO off 0) 2 + 1) B.length, .rng (-9223372036854775808) (ior (ior 0 (B.getD
 (addO (addO off 0) 0) 0) * 256) (B.getD (addO (addO off 0) 1) 0) * 256) 9223372036854775807, .rng (-9223372036854775808) (B.getD (addO (addO off 0) 2) 0) 9223372036854775807, .nn .i64 (ior (ior 0 (B.getD (addO (addO off 0) 0) 0) * 256) (B.getD (addO (addO off 0) 1) 0) * 256), .nn .i64 (B.getD (addO (addO off 0) 2) 0), .eqN g g, .eqN g g, .leN (addO (addO off 0) 3 + 1) B.length, .rng
 (-9223372036854775808) (ior (ior (ior 0 (B.getD (addO (addO off 0) 0) 0) * 256) (B.getD (addO (addO off 0) 1) 0) * 256) (B.getD (addO (addO off 0) 2) 0) * 256) 9223372036854775807, .rng (-9223372036854775808) (B.getD (addO (addO off 0) 3) 0) 9223372036854775807, .nn .i64 (ior (ior (ior 0 (B.getD (addO (addO off 0) 0) 0) * 256) (B.getD (addO (addO off 0) 1) 0) * 256) (B.getD (addO (addO off 0) 2) 0)
 * 256), .nn .i64 (B.getD (addO (addO off 0) 3) 0), .eqN g g, .eqN g g, .leN (addO (addO off 0) 4 + 1) B.length, .rng (-9223372036854775808) (ior (ior (ior (ior 0 (B.getD (addO (addO off 0) 0) 0) * 256) (B.getD (addO (addO off 0) 1) 0) * 256) (B.getD (addO (addO off 0) 2) 0) * 256) (B.getD (addO (addO off 0) 3) 0) * 256) 9223372036854775807, .rng (-9223372036854775808) (B.getD (addO (addO off 0) 4)
 0) 9223372036854775807, .nn .i64 (ior (ior (ior (ior 0 (B.getD (addO (addO off 0) 0) 0) * 256) (B.getD (addO (addO off 0) 1) 0) * 256) (B.getD (addO (addO off 0) 2) 0) * 256) (B.getD (addO (addO off 0) 3) 0) * 256), .nn .i64 (B.getD (addO (addO off 0) 4) 0), .eqN g g, .eqN g g, .leN (addO (addO off 0) 5 + 1) B.length, .rng (-9223372036854775808) (ior (ior (ior (ior (ior 0 (B.getD (addO (addO off 0)
 0) 0) * 256) (B.getD (addO (addO off 0) 1) 0) * 256) (B.getD (addO (addO off 0) 2) 0) * 256) (B.getD (addO (addO off 0) 3) 0) * 256) (B.getD (addO (addO off 0) 4) 0) * 256) 9223372036854775807, .rng (-9223372036854775808) (B.getD (addO (addO off 0) 5) 0) 9223372036854775807, .nn .i64 (ior (ior (ior (ior (ior 0 (B.getD (addO (addO off 0) 0) 0) * 256) (B.getD (addO (addO off 0) 1) 0) * 256) (B.getD
 (addO (addO off 0) 2) 0) * 256) (B.getD (addO (addO off 0) 3) 0) * 256) (B.getD (addO (addO off 0) 4) 0) * 256), .nn .i64 (B.getD (addO (addO off 0) 5) 0), .eqN g g, .eqN g g, .leN (addO (addO off 0) 6 + 1) B.length, .rng (-9223372036854775808) (ior (ior (ior (ior (ior (ior 0 (B.getD (addO (addO off 0) 0) 0) * 256) (B.getD (addO (addO off 0) 1) 0) * 256) (B.getD (addO (addO off 0) 2) 0) * 256)
 (B.getD (addO (addO off 0) 3) 0) * 256) (B.getD (addO (addO off 0) 4) 0) * 256) (B.getD (addO (addO off 0) 5) 0) * 256) 9223372036854775807, .rng (-9223372036854775808) (B.getD (addO (addO off 0) 6) 0) 9223372036854775807, .nn .i64 (ior (ior (ior (ior (ior (ior 0 (B.getD (addO (addO off 0) 0) 0) * 256) (B.getD (addO (addO off 0) 1) 0) * 256) (B.getD (addO (addO off 0) 2) 0) * 256) (B.getD (addO
 (addO off 0) 3) 0) * 256) (B.getD (addO (addO off 0) 4) 0) * 256) (B.getD (addO (addO off 0) 5) 0) * 256), .nn .i64 (B.getD (addO (addO off 0) 6) 0), .eqN g g, .eqN g g, .leN (addO (addO off 0) 7 + 1) B.length, .rng (-9223372036854775808) (ior (ior (ior (ior (ior (ior (ior 0 (B.getD (addO (addO off 0) 0) 0) * 256) (B.getD (addO (addO off 0) 1) 0) * 256) (B.getD (addO (addO off 0) 2) 0) * 256)
 (B.getD (addO (addO off 0) 3) 0) * 256) (B.getD (addO (addO off 0) 4) 0) * 256) (B.getD (addO (addO off 0) 5) 0) * 256) (B.getD (addO (addO off 0) 6) 0) * 256) 9223372036854775807, .rng (-9223372036854775808) (B.getD (addO (addO off 0) 7) 0) 9223372036854775807, .nn .i64 (ior (ior (ior (ior (ior (ior (ior 0 (B.getD (addO (addO off 0) 0) 0) * 256) (B.getD (addO (addO off 0) 1) 0) * 256) (B.getD
 (addO (addO off 0) 2) 0) * 256) (B.getD (addO (addO off 0) 3) 0) * 256) (B.getD (addO (addO off 0) 4) 0) * 256) (B.getD (addO (addO off 0) 5) 0) * 256) (B.getD (addO (addO off 0) 6) 0) * 256), .nn .i64 (B.getD (addO (addO off 0) 7) 0)]) : OkR (R45_8 B g gR off len e) := OkR.dem (fl := bitsF 97 82208410933218101147380403288) (by kernel_rfl) (by kernel_rfl) (by kernel_rfl) h
theorem R45_8_val {B : List Int} {g gR off len : Nat} {e : Int} : (R45_8 B g gR off len e).val = .int .i64 (ior (ior (ior (ior (ior (ior (ior (ior 0 (B.getD (addO (addO off 0) 0) 0) * 256) (B.getD (addO (addO off 0) 1) 0) * 256) (B.getD (addO (addO off 0) 2) 0) * 256) (B.getD (addO (addO off 0) 3) 0) * 256) (B.getD (addO (addO off 0) 4) 0) * 256) (B.getD (addO (addO off 0) 5) 0) * 256) (B.getD
 (addO (addO off 0) 6) 0) * 256) (B.getD (addO (addO off 0) 7) 0)) := by kernel_rfl
theorem R45_8_tab {B : List Int} {g gR off len : Nat} {e : Int} : (R45_8 B g gR off len e).tab = [some ⟨.agg [.slice 1 1 g off len none, .int .i64 e, .bool true], gR, false, 60⟩, some ⟨.ints .u8 B, g, false, 5⟩] := by kernel_rfl
end Go.Abs

set_option linter.unusedVariables false
set_option linter.unusedSimpArgs false
set_option maxRecDepth 100000
set_option maxHeartbeats 4000000
namespace Go.Abs
open Go.Proofs Go.Proofs.Try
theorem beN_rng {B : List Int} (h : ByLaw B) (off : Nat) : ∀ k : Nat, 0 ≤ beN k B off ∧ beN k B off < 256 ^ k
  | 0 => ⟨Int.le_refl 0, by show (0 : Int) < 256 ^ 0; decide⟩
  | k + 1 => by
    have h1 := beN_rng h off k
    have h2 := h (off + k)
    unfold beN
    rw [Int.pow_succ]
    omega
theorem beN_low {B : List Int} (h : ByLaw B) {off : Nat} (h0 : B.getD off 0 < 64) : ∀ k : Nat, beN (k + 1) B off < 64 * 256 ^ k
  | 0 => by unfold beN beN; simpa using h0
  | k + 1 => by
    have h1 := beN_low h h0 k
    have h2 := h (off + (k + 1))
    rw [beN, Int.pow_succ]
    omega
theorem be_step {B : List Int} (h : ByLaw B) (off k : Nat) : ior (beN k B off * 256) (B.getD (off + k) 0) = beN (k + 1) B off := by
  have h2 := h (off + k)
  rw [ior_low (beN_rng h off k).1 h2.1 h2.2]
  rfl
theorem be_one {B : List Int} (h : ByLaw B) (off : Nat) : ior 0 (B.getD off 0) = beN 1 B off := by
  rw [ior_zero (h off).1]
  unfold beN beN
  rw [Nat.add_zero, Int.zero_mul, Int.zero_add]
noncomputable def sm45c (args : List AVal) (T : Tab) (B : List Int) (g : Nat) (gR : Nat) (off : Nat) (len : Nat) (e : Int) (size : Int) : Res := ⟨[.tab T [some ⟨.agg [.slice 1 1 g off len none, .int .i64 e, .bool true], gR, false, 60⟩, some ⟨.ints .u8 B, g, false, 5⟩], .val (.tuple args) (.tuple [.var 0 gR, .int .i64 size]), .p (sizedLaw size), .leN size.toNat len, .leN (off + len) B.length, .p (ByLaw B), .p (LowLaw B off size)], .int .i64 (numAtLaw size.toNat B off), [some ⟨.agg [.slice 1 1 g off len none, .int .i64 e, .bool true], gR, false, 60⟩, some ⟨.ints .u8 B, g, false, 5⟩]⟩
theorem sm45c_ok {args : List AVal} {T : Tab} {B : List Int} {g : Nat} {gR : Nat} {off : Nat} {len : Nat} {e : Int} {size : Int} (h : allP (sm45c args T B g gR off len e size).cs) : Small prog (fun _ => none) 45 args T (sm45c args T B g gR off len e size).val (sm45c args T B g gR off len e size).tab := by
  obtain ⟨hT, hv, h1, h2, h3, h4, h5, _⟩ := h
  simp only [Con.h] at hT hv h1 h2 h3 h4 h5
  injection hv with hv
  subst hT hv
  show Small prog (fun _ => none) 45 [.var 0 gR, .int .i64 size] [some ⟨.agg [.slice 1 1 g off len none, .int .i64 e, .bool true], gR, false, 60⟩, some ⟨.ints .u8 B, g, false, 5⟩] (.int .i64 (numAtLaw size.toNat B off)) [some ⟨.agg [.slice 1 1 g off len none, .int .i64 e, .bool true], gR, false, 60⟩, some ⟨.ints .u8 B, g, false, 5⟩]
  have hs : size = 1 ∨ size = 2 ∨ size = 4 ∨ size = 8 := h1
  have hb : ByLaw B := h4
  have hq : LowLaw B off size := h5
  rcases hs with rfl | rfl | rfl | rfl
  · have s0 := be_one hb off
    refine small_of (R := R45_1 B g gR off len e) eC0_ok hmC (f := 45) (fn := f45) (by kernel_rfl) (by kernel_rfl) FnOrc.nil rfl (R45_1_ok ?_) (by rw [R45_1_val]; simp only [addO_eq, Nat.add_zero, s0]; rfl) R45_1_tab
    have b0 := beN_rng hb off 0
    have c0 := hb (off + 0)
    simp only [Nat.add_zero] at c0
    simp only [Int.reducePow, Int.reduceMul] at *
    simp only [allP, Con.h, nonneg, addO_eq, Nat.add_zero, s0, eq_self, true_and, and_true]
    omega
  · have s0 := be_one hb off
    have s1 : ior (beN 1 B off * 256) (B.getD (off + 1) 0) = beN 2 B off := be_step hb off 1
    refine small_of (R := R45_2 B g gR off len e) eC0_ok hmC (f := 45) (fn := f45) (by kernel_rfl) (by kernel_rfl) FnOrc.nil rfl (R45_2_ok ?_) (by rw [R45_2_val]; simp only [addO_eq, Nat.add_zero, s0, s1]; rfl) R45_2_tab
    have b0 := beN_rng hb off 0
    have c0 := hb (off + 0)
    have b1 := beN_rng hb off 1
    have c1 := hb (off + 1)
    simp only [Nat.add_zero] at c0
    simp only [Int.reducePow, Int.reduceMul] at *
    simp only [allP, Con.h, nonneg, addO_eq, Nat.add_zero, s0, s1, eq_self, true_and, and_true]
    omega
  · have s0 := be_one hb off
    have s1 : ior (beN 1 B off * 256) (B.getD (off + 1) 0) = beN 2 B off := be_step hb off 1
    have s2 : ior (beN 2 B off * 256) (B.getD (off + 2) 0) = beN 3 B off := be_step hb off 2
    have s3 : ior (beN 3 B off * 256) (B.getD (off + 3) 0) = beN 4 B off := be_step hb off 3
    refine small_of (R := R45_4 B g gR off len e) eC0_ok hmC (f := 45) (fn := f45) (by kernel_rfl) (by kernel_rfl) FnOrc.nil rfl (R45_4_ok ?_) (by rw [R45_4_val]; simp only [addO_eq, Nat.add_zero, s0, s1, s2, s3]; rfl) R45_4_tab
    have b0 := beN_rng hb off 0
    have c0 := hb (off + 0)
    have b1 := beN_rng hb off 1
    have c1 := hb (off + 1)
    have b2 := beN_rng hb off 2
    have c2 := hb (off + 2)
    have b3 := beN_rng hb off 3
    have c3 := hb (off + 3)
    simp only [Nat.add_zero] at c0
    simp only [Int.reducePow, Int.reduceMul] at *
    simp only [allP, Con.h, nonneg, addO_eq, Nat.add_zero, s0, s1, s2, s3, eq_self, true_and, and_true]
    omega
  · have s0 := be_one hb off
    have s1 : ior (beN 1 B off * 256) (B.getD (off + 1) 0) = beN 2 B off := be_step hb off 1
    have s2 : ior (beN 2 B off * 256) (B.getD (off + 2) 0) = beN 3 B off := be_step hb off 2
    have s3 : ior (beN 3 B off * 256) (B.getD (off + 3) 0) = beN 4 B off := be_step hb off 3
    have s4 : ior (beN 4 B off * 256) (B.getD (off + 4) 0) = beN 5 B off := be_step hb off 4
    have s5 : ior (beN 5 B off * 256) (B.getD (off + 5) 0) = beN 6 B off := be_step hb off 5
    have s6 : ior (beN 6 B off * 256) (B.getD (off + 6) 0) = beN 7 B off := be_step hb off 6
    have s7 : ior (beN 7 B off * 256) (B.getD (off + 7) 0) = beN 8 B off := be_step hb off 7
    refine small_of (R := R45_8 B g gR off len e) eC0_ok hmC (f := 45) (fn := f45) (by kernel_rfl) (by kernel_rfl) FnOrc.nil rfl (R45_8_ok ?_) (by rw [R45_8_val]; simp only [addO_eq, Nat.add_zero, s0, s1, s2, s3, s4, s5, s6, s7]; rfl) R45_8_tab
    have b0 := beN_rng hb off 0
    have c0 := hb (off + 0)
    have b1 := beN_rng hb off 1
    have c1 := hb (off + 1)
    have b2 := beN_rng hb off 2
    have c2 := hb (off + 2)
    have b3 := beN_rng hb off 3
    have c3 := hb (off + 3)
    have b4 := beN_rng hb off 4
    have c4 := hb (off + 4)
    have b5 := beN_rng hb off 5
    have c5 := hb (off + 5)
    have b6 := beN_rng hb off 6
    have c6 := hb (off + 6)
    have b7 := beN_rng hb off 7
    have c7 := hb (off + 7)
    have l0 : beN 1 B off < 64 * 256 ^ 0 := beN_low hb (hq rfl) 0
    have l1 : beN 2 B off < 64 * 256 ^ 1 := beN_low hb (hq rfl) 1
    have l2 : beN 3 B off < 64 * 256 ^ 2 := beN_low hb (hq rfl) 2
    have l3 : beN 4 B off < 64 * 256 ^ 3 := beN_low hb (hq rfl) 3
    have l4 : beN 5 B off < 64 * 256 ^ 4 := beN_low hb (hq rfl) 4
    have l5 : beN 6 B off < 64 * 256 ^ 5 := beN_low hb (hq rfl) 5
    have l6 : beN 7 B off < 64 * 256 ^ 6 := beN_low hb (hq rfl) 6
    simp only [Nat.add_zero] at c0
    simp only [Int.reducePow, Int.reduceMul] at *
    simp only [allP, Con.h, nonneg, addO_eq, Nat.add_zero, s0, s1, s2, s3, s4, s5, s6, s7, eq_self, true_and, and_true]
    omega
noncomputable def sm45 : Summary := fun args T => sm45c args T (xsAt T 1) (gAt T 1) (gAt T 0) (offOf (cAt T 0 0)) (lenOf (cAt T 0 0)) (iOf (cAt T 0 1)) (iOf (vAt args 1))
theorem sm45_ok : SmOk prog (fun _ => none) 45 sm45 := fun args T h => sm45c_ok h
end Go.Abs

set_option linter.unusedVariables false
set_option linter.unusedSimpArgs false
set_option maxRecDepth 100000
set_option maxHeartbeats 4000000
namespace Go.Abs
open Go.Proofs Go.Proofs.Try
/-! ### the reader: Number -/
noncomputable def S45r : Summary := callR sm45 []
theorem S45r_ok : SumOk prog (fun _ => none) 45 S45r := callR_ok sm45_ok []
noncomputable def eR1 : Env := eC0 [(35, S35), (39, S39), (45, S45r)]
theorem eR1_ok : EnvOk eR1 := envOf_ok tysC_ok (SumsOk.cons (fn := f35) S35_ok (by kernel_rfl) (by kernel_rfl) (by kernel_rfl) (SumsOk.cons (fn := f39) S39_ok (by kernel_rfl) (by kernel_rfl) (by kernel_rfl) (SumsOk.cons (fn := f45) S45r_ok (by kernel_rfl) (by kernel_rfl) (by kernel_rfl) trivial)))
noncomputable def eR1x : Env := eC0 [(35, S35), (39, S39x)]
theorem eR1x_ok : EnvOk eR1x := envOf_ok tysC_ok (SumsOk.cons (fn := f35) S35_ok (by kernel_rfl) (by kernel_rfl) (by kernel_rfl) (SumsOk.cons (fn := f39) S39x_ok (by kernel_rfl) (by kernel_rfl) (by kernel_rfl) trivial))
noncomputable def R25e (B : List Int) (g gR off n : Nat) (e size : Int) : Res := runF eR1 f25 [] 400 [.var 0 gR, .int .i64 size] [some ⟨.agg [.slice 1 1 g off n none, .int .i64 e, .bool true], gR, true, 60⟩, some ⟨.ints .u8 B, g, false, 5⟩] [some true]
theorem R25e_ok {B : List Int} {g gR off n : Nat} {e size : Int} (h : allP [.eqN gR gR, .eqN g g, .eqN gR gR, .eqN gR gR, .eqN gR gR, .eqN gR gR, .eqN gR gR, .eqN gR gR, .eqN gR gR, .p ((e != 0) = true)]) : OkR (R25e B g gR off n e size) := OkR.dem (fl := bitsF 12 1088) (by kernel_rfl) (by kernel_rfl) (by kernel_rfl) h
theorem R25e_val {B : List Int} {g gR off n : Nat} {e size : Int} : (R25e B g gR off n e size).val = .int .i64 0 := by kernel_rfl
theorem R25e_tab {B : List Int} {g gR off n : Nat} {e size : Int} : (R25e B g gR off n e size).tab = [some ⟨.agg [.slice 1 1 g off n none, .int .i64 e, .bool true], gR, true, 60⟩, some ⟨.ints .u8 B, g, false, 5⟩] := by kernel_rfl
noncomputable def R25x (B : List Int) (g gR off n : Nat) (size : Int) : Res := runF eR1x f25 [] 400 [.var 0 gR, .int .i64 size] [some ⟨.agg [.slice 1 1 g off n none, .int .i64 0, .bool true], gR, true, 60⟩, some ⟨.ints .u8 B, g, false, 5⟩] [none, none]
theorem R25x_ok {B : List Int} {g gR off n : Nat} {size : Int} (h : allP [.eqN gR gR, .eqN g g, .eqN gR gR, .eqN gR gR, .eqN gR gR, .eqN gR gR, .eqN gR gR, .eqN gR gR, .eqN gR gR, .p ((size == 1) = false), .p ((size == 2) = false), .p ((size == 4) = false), .p ((size == 8) = false), .eqN gR gR, .eqN gR gR, .eqN gR gR]) : OkR (R25x B g gR off n size) := OkR.dem (fl := bitsF 21 1836096) (by
 kernel_rfl) (by kernel_rfl) (by kernel_rfl) h
theorem R25x_val {B : List Int} {g gR off n : Nat} {size : Int} : (R25x B g gR off n size).val = .int .i64 0 := by kernel_rfl
theorem R25x_tab {B : List Int} {g gR off n : Nat} {size : Int} : (R25x B g gR off n size).tab = [some ⟨.agg [.slice 1 1 g off n none, .int .i64 1, .bool true], gR, true, 60⟩, some ⟨.ints .u8 B, g, false, 5⟩] := by kernel_rfl
noncomputable def R25s1 (B : List Int) (g gR off n : Nat) : Res := runF eR1 f25 [] 400 [.var 0 gR, .int .i64 1] [some ⟨.agg [.slice 1 1 g off n none, .int .i64 0, .bool true], gR, true, 60⟩, some ⟨.ints .u8 B, g, false, 5⟩] [none, none, some true]
theorem R25s1_ok {B : List Int} {g gR off n : Nat} (h : allP [.eqN gR gR, .eqN g g, .eqN gR gR, .eqN gR gR, .eqN gR gR, .eqN gR gR, .eqN gR gR, .eqN gR gR, .eqN gR gR, .eqN gR gR, .eqN gR gR, .eqN gR gR, .eqN g g, .p (decide ((↑n : Int) < 1) = true), .eqN gR gR, .eqN gR gR, .eqN gR gR]) : OkR (R25s1 B g gR off n) := OkR.dem (fl := bitsF 24 14715968) (by kernel_rfl) (by kernel_rfl) (by kernel_rfl) h
theorem R25s1_val {B : List Int} {g gR off n : Nat} : (R25s1 B g gR off n).val = .int .i64 0 := by kernel_rfl
theorem R25s1_tab {B : List Int} {g gR off n : Nat} : (R25s1 B g gR off n).tab = [some ⟨.agg [.slice 1 1 g off n none, .int .i64 20, .bool true], gR, true, 60⟩, some ⟨.ints .u8 B, g, false, 5⟩] := by kernel_rfl
noncomputable def R25g1 (B : List Int) (g gR off n : Nat) : Res := runF eR1 f25 [] 400 [.var 0 gR, .int .i64 1] [some ⟨.agg [.slice 1 1 g off n none, .int .i64 0, .bool true], gR, true, 60⟩, some ⟨.ints .u8 B, g, false, 5⟩] [none, none, some false, none]
theorem R25g1_ok {B : List Int} {g gR off n : Nat} (h : allP [.eqN gR gR, .eqN g g, .eqN gR gR, .eqN gR gR, .eqN gR gR, .eqN gR gR, .eqN gR gR, .eqN gR gR, .eqN gR gR, .eqN gR gR, .eqN gR gR, .eqN gR gR, .eqN g g, .p (decide ((↑n : Int) < 1) = false), .eqN gR gR, .eqN g g, .p (sizedLaw (OfNat.ofNat 1)), .leN 1 n, .leN (off + n) B.length, .p (ByLaw B), .p (LowLaw B off (OfNat.ofNat 1)), .eqN gR gR,
 .eqN gR gR, .eqN gR gR, .eqN g g, .leN 1 n, .eqN gR gR, .eqN gR gR, .eqN gR gR]) : OkR (R25g1 B g gR off n) := OkR.dem (fl := bitsF 40 965293935680) (by kernel_rfl) (by kernel_rfl) (by kernel_rfl) h
theorem R25g1_val {B : List Int} {g gR off n : Nat} : (R25g1 B g gR off n).val = .int .i64 (numAtLaw 1 B off) := by kernel_rfl
theorem R25g1_tab {B : List Int} {g gR off n : Nat} : (R25g1 B g gR off n).tab = [some ⟨.agg [.slice 1 1 g (addO off 1) (n - 1) none, .int .i64 0, .bool true], gR, true, 60⟩, some ⟨.ints .u8 B, g, false, 5⟩] := by kernel_rfl
noncomputable def R25s2 (B : List Int) (g gR off n : Nat) : Res := runF eR1 f25 [] 400 [.var 0 gR, .int .i64 2] [some ⟨.agg [.slice 1 1 g off n none, .int .i64 0, .bool true], gR, true, 60⟩, some ⟨.ints .u8 B, g, false, 5⟩] [none, none, some true]
theorem R25s2_ok {B : List Int} {g gR off n : Nat} (h : allP [.eqN gR gR, .eqN g g, .eqN gR gR, .eqN gR gR, .eqN gR gR, .eqN gR gR, .eqN gR gR, .eqN gR gR, .eqN gR gR, .eqN gR gR, .eqN gR gR, .eqN gR gR, .eqN g g, .p (decide ((↑n : Int) < 2) = true), .eqN gR gR, .eqN gR gR, .eqN gR gR]) : OkR (R25s2 B g gR off n) := OkR.dem (fl := bitsF 24 14715968) (by kernel_rfl) (by kernel_rfl) (by kernel_rfl) h
theorem R25s2_val {B : List Int} {g gR off n : Nat} : (R25s2 B g gR off n).val = .int .i64 0 := by kernel_rfl
theorem R25s2_tab {B : List Int} {g gR off n : Nat} : (R25s2 B g gR off n).tab = [some ⟨.agg [.slice 1 1 g off n none, .int .i64 20, .bool true], gR, true, 60⟩, some ⟨.ints .u8 B, g, false, 5⟩] := by kernel_rfl
noncomputable def R25g2 (B : List Int) (g gR off n : Nat) : Res := runF eR1 f25 [] 400 [.var 0 gR, .int .i64 2] [some ⟨.agg [.slice 1 1 g off n none, .int .i64 0, .bool true], gR, true, 60⟩, some ⟨.ints .u8 B, g, false, 5⟩] [none, none, some false, none]
theorem R25g2_ok {B : List Int} {g gR off n : Nat} (h : allP [.eqN gR gR, .eqN g g, .eqN gR gR, .eqN gR gR, .eqN gR gR, .eqN gR gR, .eqN gR gR, .eqN gR gR, .eqN gR gR, .eqN gR gR, .eqN gR gR, .eqN gR gR, .eqN g g, .p (decide ((↑n : Int) < 2) = false), .eqN gR gR, .eqN g g, .p (sizedLaw (OfNat.ofNat 2)), .leN 2 n, .leN (off + n) B.length, .p (ByLaw B), .p (LowLaw B off (OfNat.ofNat 2)), .eqN gR gR,
 .eqN gR gR, .eqN gR gR, .eqN g g, .leN 2 n, .eqN gR gR, .eqN gR gR, .eqN gR gR]) : OkR (R25g2 B g gR off n) := OkR.dem (fl := bitsF 40 965293935680) (by kernel_rfl) (by kernel_rfl) (by kernel_rfl) h
theorem R25g2_val {B : List Int} {g gR off n : Nat} : (R25g2 B g gR off n).val = .int .i64 (numAtLaw 2 B off) := by kernel_rfl
theorem R25g2_tab {B : List Int} {g gR off n : Nat} : (R25g2 B g gR off n).tab = [some ⟨.agg [.slice 1 1 g (addO off 2) (n - 2) none, .int .i64 0, .bool true], gR, true, 60⟩, some ⟨.ints .u8 B, g, false, 5⟩] := by kernel_rfl
noncomputable def R25s4 (B : List Int) (g gR off n : Nat) : Res := runF eR1 f25 [] 400 [.var 0 gR, .int .i64 4] [some ⟨.agg [.slice 1 1 g off n none, .int .i64 0, .bool true], gR, true, 60⟩, some ⟨.ints .u8 B, g, false, 5⟩] [none, none, some true]
theorem R25s4_ok {B : List Int} {g gR off n : Nat} (h : allP [.eqN gR gR, .eqN g g, .eqN gR gR, .eqN gR gR, .eqN gR gR, .eqN gR gR, .eqN gR gR, .eqN gR gR, .eqN gR gR, .eqN gR gR, .eqN gR gR, .eqN gR gR, .eqN g g, .p (decide ((↑n : Int) < 4) = true), .eqN gR gR, .eqN gR gR, .eqN gR gR]) : OkR (R25s4 B g gR off n) := OkR.dem (fl := bitsF 24 14715968) (by kernel_rfl) (by kernel_rfl) (by kernel_rfl) h
theorem R25s4_val {B : List Int} {g gR off n : Nat} : (R25s4 B g gR off n).val = .int .i64 0 := by kernel_rfl
theorem R25s4_tab {B : List Int} {g gR off n : Nat} : (R25s4 B g gR off n).tab = [some ⟨.agg [.slice 1 1 g off n none, .int .i64 20, .bool true], gR, true, 60⟩, some ⟨.ints .u8 B, g, false, 5⟩] := by kernel_rfl
noncomputable def R25g4 (B : List Int) (g gR off n : Nat) : Res := runF eR1 f25 [] 400 [.var 0 gR, .int .i64 4] [some ⟨.agg [.slice 1 1 g off n none, .int .i64 0, .bool true], gR, true, 60⟩, some ⟨.ints .u8 B, g, false, 5⟩] [none, none, some false, none]
theorem R25g4_ok {B : List Int} {g gR off n : Nat} (h : allP [.eqN gR gR, .eqN g g, .eqN gR gR, .eqN gR gR, .eqN gR gR, .eqN gR gR, .eqN gR gR, .eqN gR gR, .eqN gR gR, .eqN gR gR, .eqN gR gR, .eqN gR gR, .eqN g g, .p (decide ((↑n : Int) < 4) = false), .eqN gR gR, .eqN g g, .p (sizedLaw (OfNat.ofNat 4)), .leN 4 n, .leN (off + n) B.length, .p (ByLaw B), .p (LowLaw B off (OfNat.ofNat 4)), .eqN gR gR,
 .eqN gR gR, .eqN gR gR, .eqN g g, .leN 4 n, .eqN gR gR, .eqN gR gR, .eqN gR gR]) : OkR (R25g4 B g gR off n) := OkR.dem (fl := bitsF 40 965293935680) (by kernel_rfl) (by kernel_rfl) (by kernel_rfl) h
theorem R25g4_val {B : List Int} {g gR off n : Nat} : (R25g4 B g gR off n).val = .int .i64 (numAtLaw 4 B off) := by kernel_rfl
theorem R25g4_tab {B : List Int} {g gR off n : Nat} : (R25g4 B g gR off n).tab = [some ⟨.agg [.slice 1 1 g (addO off 4) (n - 4) none, .int .i64 0, .bool true], gR, true, 60⟩, some ⟨.ints .u8 B, g, false, 5⟩] := by kernel_rfl
noncomputable def R25s8 (B : List Int) (g gR off n : Nat) : Res := runF eR1 f25 [] 400 [.var 0 gR, .int .i64 8] [some ⟨.agg [.slice 1 1 g off n none, .int .i64 0, .bool true], gR, true, 60⟩, some ⟨.ints .u8 B, g, false, 5⟩] [none, none, some true]
theorem R25s8_ok {B : List Int} {g gR off n : Nat} (h : allP [.eqN gR gR, .eqN g g, .eqN gR gR, .eqN gR gR, .eqN gR gR, .eqN gR gR, .eqN gR gR, .eqN gR gR, .eqN gR gR, .eqN gR gR, .eqN gR gR, .eqN gR gR, .eqN g g, .p (decide ((↑n : Int) < 8) = true), .eqN gR gR, .eqN gR gR, .eqN gR gR]) : OkR (R25s8 B g gR off n) := OkR.dem (fl := bitsF 23 7357504) (by kernel_rfl) (by kernel_rfl) (by kernel_rfl) h
theorem R25s8_val {B : List Int} {g gR off n : Nat} : (R25s8 B g gR off n).val = .int .i64 0 := by kernel_rfl
theorem R25s8_tab {B : List Int} {g gR off n : Nat} : (R25s8 B g gR off n).tab = [some ⟨.agg [.slice 1 1 g off n none, .int .i64 20, .bool true], gR, true, 60⟩, some ⟨.ints .u8 B, g, false, 5⟩] := by kernel_rfl
noncomputable def R25g8 (B : List Int) (g gR off n : Nat) : Res := runF eR1 f25 [] 400 [.var 0 gR, .int .i64 8] [some ⟨.agg [.slice 1 1 g off n none, .int .i64 0, .bool true], gR, true, 60⟩, some ⟨.ints .u8 B, g, false, 5⟩] [none, none, some false, none, some false]
theorem R25g8_ok {B : List Int} {g gR off n : Nat} (h : allP [.eqN gR gR, .eqN g g, .eqN gR gR, .eqN gR gR, .eqN gR gR, .eqN gR gR, .eqN gR gR, .eqN gR gR, .eqN gR gR, .eqN gR gR, .eqN gR gR, .eqN gR gR, .eqN g g, .p (decide ((↑n : Int) < 8) = false), .eqN gR gR, .eqN gR gR, .eqN gR gR, .eqN g g, .leI 1 (↑n : Int), .eqN g g, .leN (addO off 0 + 1) B.length, .p (decide (64 ≤ B.getD (addO off 0) 0) =
 false), .eqN gR gR, .eqN g g, .p (sizedLaw (OfNat.ofNat 8)), .leN 8 n, .leN (off + n) B.length, .p (ByLaw B), .p (LowLaw B off (OfNat.ofNat 8)), .eqN gR gR, .eqN gR gR, .eqN gR gR, .eqN g g, .leN 8 n, .eqN gR gR, .eqN gR gR, .eqN gR gR]) : OkR (R25g8 B g gR off n) := OkR.dem (fl := bitsF 49 494230481945664) (by kernel_rfl) (by kernel_rfl) (by kernel_rfl) h
theorem R25g8_val {B : List Int} {g gR off n : Nat} : (R25g8 B g gR off n).val = .int .i64 (numAtLaw 8 B off) := by kernel_rfl
theorem R25g8_tab {B : List Int} {g gR off n : Nat} : (R25g8 B g gR off n).tab = [some ⟨.agg [.slice 1 1 g (addO off 8) (n - 8) none, .int .i64 0, .bool true], gR, true, 60⟩, some ⟨.ints .u8 B, g, false, 5⟩] := by kernel_rfl
noncomputable def R25r (B : List Int) (g gR off n : Nat) : Res := runF eR1 f25 [] 400 [.var 0 gR, .int .i64 8] [some ⟨.agg [.slice 1 1 g off n none, .int .i64 0, .bool true], gR, true, 60⟩, some ⟨.ints .u8 B, g, false, 5⟩] [none, none, some false, none, some true]
theorem R25r_ok {B : List Int} {g gR off n : Nat} (h : allP [.eqN gR gR, .eqN g g, .eqN gR gR, .eqN gR gR, .eqN gR gR, .eqN gR gR, .eqN gR gR, .eqN gR gR, .eqN gR gR, .eqN gR gR, .eqN gR gR, .eqN gR gR, .eqN g g, .p (decide ((↑n : Int) < 8) = false), .eqN gR gR, .eqN gR gR, .eqN gR gR, .eqN g g, .leI 1 (↑n : Int), .eqN g g, .leN (addO off 0 + 1) B.length, .p (decide (64 ≤ B.getD (addO off 0) 0) =
 true), .eqN gR gR, .eqN gR gR, .eqN gR gR]) : OkR (R25r B g gR off n) := OkR.dem (fl := bitsF 33 7521453120) (by kernel_rfl) (by kernel_rfl) (by kernel_rfl) h
theorem R25r_val {B : List Int} {g gR off n : Nat} : (R25r B g gR off n).val = .int .i64 0 := by kernel_rfl
theorem R25r_tab {B : List Int} {g gR off n : Nat} : (R25r B g gR off n).tab = [some ⟨.agg [.slice 1 1 g off n none, .int .i64 11, .bool true], gR, true, 60⟩, some ⟨.ints .u8 B, g, false, 5⟩] := by kernel_rfl
/-! ### Length -/
noncomputable def eR2 : Env := eC0 [(35, S35), (45, S45r)]
theorem eR2_ok : EnvOk eR2 := envOf_ok tysC_ok (SumsOk.cons (fn := f35) S35_ok (by kernel_rfl) (by kernel_rfl) (by kernel_rfl) (SumsOk.cons (fn := f45) S45r_ok (by kernel_rfl) (by kernel_rfl) (by kernel_rfl) trivial))
noncomputable def R27e (B : List Int) (g gR off n : Nat) (e : Int) : Res := runF eR2 f27 [] 400 [.var 0 gR] [some ⟨.agg [.slice 1 1 g off n none, .int .i64 e, .bool true], gR, true, 60⟩, some ⟨.ints .u8 B, g, false, 5⟩] [some true]
theorem R27e_ok {B : List Int} {g gR off n : Nat} {e : Int} (h : allP [.eqN gR gR, .eqN g g, .eqN gR gR, .eqN gR gR, .eqN gR gR, .eqN gR gR, .eqN gR gR, .eqN gR gR, .eqN gR gR, .p ((e != 0) = true)]) : OkR (R27e B g gR off n e) := OkR.dem (fl := bitsF 12 1088) (by kernel_rfl) (by kernel_rfl) (by kernel_rfl) h
theorem R27e_val {B : List Int} {g gR off n : Nat} {e : Int} : (R27e B g gR off n e).val = .int .i64 0 := by kernel_rfl
theorem R27e_tab {B : List Int} {g gR off n : Nat} {e : Int} : (R27e B g gR off n e).tab = [some ⟨.agg [.slice 1 1 g off n none, .int .i64 e, .bool true], gR, true, 60⟩, some ⟨.ints .u8 B, g, false, 5⟩] := by kernel_rfl
noncomputable def R27z (B : List Int) (g gR off n : Nat) : Res := runF eR2 f27 [] 400 [.var 0 gR] [some ⟨.agg [.slice 1 1 g off n none, .int .i64 0, .bool true], gR, true, 60⟩, some ⟨.ints .u8 B, g, false, 5⟩] [none, some false, none, some true]
theorem R27z_ok {B : List Int} {g gR off n : Nat} (h : allP [.eqN gR gR, .eqN g g, .eqN gR gR, .eqN gR gR, .eqN gR gR, .eqN gR gR, .eqN gR gR, .eqN gR gR, .eqN gR gR, .eqN gR gR, .eqN gR gR, .eqN gR gR, .eqN g g, .p (decide (0 < (↑n : Int)) = false), .eqN gR gR, .eqN gR gR, .eqN gR gR, .eqN g g, .p (decide ((↑n : Int) < 1) = true), .eqN gR gR, .eqN gR gR, .eqN gR gR]) : OkR (R27z B g gR off n) :=
 OkR.dem (fl := bitsF 29 470828096) (by kernel_rfl) (by kernel_rfl) (by kernel_rfl) h
theorem R27z_val {B : List Int} {g gR off n : Nat} : (R27z B g gR off n).val = .int .i64 0 := by kernel_rfl
theorem R27z_tab {B : List Int} {g gR off n : Nat} : (R27z B g gR off n).tab = [some ⟨.agg [.slice 1 1 g off n none, .int .i64 20, .bool true], gR, true, 60⟩, some ⟨.ints .u8 B, g, false, 5⟩] := by kernel_rfl
end Go.Abs

set_option linter.unusedVariables false
set_option linter.unusedSimpArgs false
set_option maxRecDepth 100000
set_option maxHeartbeats 4000000
namespace Go.Abs
open Go.Proofs Go.Proofs.Try
/-! ### what a reader's Number answers -/
def rnP (B : List Int) (off : Nat) (e size : Int) : Int × Nat × Int :=
  if e ≠ 0 then (0, off, e) else if ¬ sizedLaw size then (0, off, 1) else if ((B.length - off : Nat) : Int) < size then (0, off, 20) else if size = 8 ∧ 64 ≤ B.getD off 0 then (0, off, 11) else (numAtLaw size.toNat B off, off + size.toNat, 0)
def rnVLaw (B : List Int) (off : Nat) (e size : Int) : Int := (rnP B off e size).1
def rnOLaw (B : List Int) (off : Nat) (e size : Int) : Nat := (rnP B off e size).2.1
def rnELaw (B : List Int) (off : Nat) (e size : Int) : Int := (rnP B off e size).2.2
theorem rn_e {B : List Int} {off : Nat} {e : Int} (size : Int) (h : e ≠ 0) : rnP B off e size = (0, off, e) := if_pos h
theorem rn_x {B : List Int} {off : Nat} {size : Int} (h : ¬ sizedLaw size) : rnP B off 0 size = (0, off, 1) := by unfold rnP; rw [if_neg (by decide), if_pos h]
theorem rn_s {B : List Int} {off : Nat} {size : Int} (h : sizedLaw size) (h2 : ((B.length - off : Nat) : Int) < size) : rnP B off 0 size = (0, off, 20) := by unfold rnP; rw [if_neg (by decide), if_neg (fun k => k h), if_pos h2]
theorem rn_r {B : List Int} {off : Nat} (h2 : ¬ ((B.length - off : Nat) : Int) < 8) (h3 : 64 ≤ B.getD off 0) : rnP B off 0 8 = (0, off, 11) := by unfold rnP; rw [if_neg (by decide), if_neg (fun k => k (.inr (.inr (.inr rfl)))), if_neg h2, if_pos ⟨rfl, h3⟩]
theorem rn_g {B : List Int} {off : Nat} {size : Int} (h : sizedLaw size) (h2 : ¬ ((B.length - off : Nat) : Int) < size) (h3 : LowLaw B off size) : rnP B off 0 size = (numAtLaw size.toNat B off, off + size.toNat, 0) := by
  unfold rnP
  rw [if_neg (by decide), if_neg (fun k => k h), if_neg h2, if_neg (fun k => by have := h3 k.1; omega)]
theorem unsz {size : Int} (h : ¬ sizedLaw size) : (size == 1) = false ∧ (size == 2) = false ∧ (size == 4) = false ∧ (size == 8) = false := by
  unfold sizedLaw at h
  simp only [beq_eq_false_iff_ne, ne_eq]
  omega
noncomputable def sm25c (args : List AVal) (T : Tab) (B : List Int) (g : Nat) (gR : Nat) (off : Nat) (n : Nat) (e : Int) (size : Int) : Res := ⟨[.tab T [some ⟨.agg [.slice 1 1 g off n none, .int .i64 e, .bool true], gR, true, 60⟩, some ⟨.ints .u8 B, g, false, 5⟩], .val (.tuple args) (.tuple [.var 0 gR, .int .i64 size]), .eqN n (B.length - off), .leN off B.length, .p (ByLaw B)], .int .i64 (rnVLaw B off e size), [some ⟨.agg [.slice 1 1 g (rnOLaw B off e size) (B.length - rnOLaw B off e size) none, .int .i64 (rnELaw B off e size), .bool true], gR, true, 60⟩, some ⟨.ints .u8 B, g, false, 5⟩]⟩
theorem sm25c_ok {args : List AVal} {T : Tab} {B : List Int} {g : Nat} {gR : Nat} {off : Nat} {n : Nat} {e : Int} {size : Int} (h : allP (sm25c args T B g gR off n e size).cs) : Small prog (fun _ => none) 25 args T (sm25c args T B g gR off n e size).val (sm25c args T B g gR off n e size).tab := by
  obtain ⟨hT, hv, h1, h2, h3, _⟩ := h
  simp only [Con.h] at hT hv h1 h2 h3
  injection hv with hv
  subst hT hv
  show Small prog (fun _ => none) 25 [.var 0 gR, .int .i64 size] [some ⟨.agg [.slice 1 1 g off n none, .int .i64 e, .bool true], gR, true, 60⟩, some ⟨.ints .u8 B, g, false, 5⟩] (.int .i64 (rnVLaw B off e size)) [some ⟨.agg [.slice 1 1 g (rnOLaw B off e size) (B.length - rnOLaw B off e size) none, .int .i64 (rnELaw B off e size), .bool true], gR, true, 60⟩, some ⟨.ints .u8 B, g, false, 5⟩]
  have hb : ByLaw B := h3
  subst h1
  by_cases he : e = 0
  rotate_left
  · have hr := rn_e (B := B) (off := off) size he
    have hne : (e != 0) = true := bne_iff_ne.2 he
    simp only [rnVLaw, rnOLaw, rnELaw, hr]
    refine small_of (R := R25e B g gR off (B.length - off) e size) eR1_ok hmC (f := 25) (fn := f25) (by kernel_rfl) (by kernel_rfl) FnOrc.nil rfl (R25e_ok ?_) R25e_val R25e_tab
    simp only [allP, Con.h, hne, not_false_eq_true, eq_self, true_and, and_true]
  subst he
  by_cases hs : sizedLaw size
  rotate_left
  · have hr := rn_x (B := B) (off := off) hs
    obtain ⟨u1, u2, u3, u4⟩ := unsz hs
    simp only [rnVLaw, rnOLaw, rnELaw, hr]
    refine small_of (R := R25x B g gR off (B.length - off) size) eR1x_ok hmC (f := 25) (fn := f25) (by kernel_rfl) (by kernel_rfl) FnOrc.nil rfl (R25x_ok ?_) R25x_val R25x_tab
    simp only [allP, Con.h, u1, u2, u3, u4, not_false_eq_true, eq_self, true_and, and_true]
  by_cases hl : ((B.length - off : Nat) : Int) < size
  · have hr := rn_s hs hl
    simp only [rnVLaw, rnOLaw, rnELaw, hr]
    rcases hs with rfl | rfl | rfl | rfl
    · refine small_of (R := R25s1 B g gR off (B.length - off)) eR1_ok hmC (f := 25) (fn := f25) (by kernel_rfl) (by kernel_rfl) FnOrc.nil rfl (R25s1_ok ?_) R25s1_val R25s1_tab
      simp only [allP, Con.h, decide_eq_true_eq, not_false_eq_true, eq_self, true_and, and_true]
      omega
    · refine small_of (R := R25s2 B g gR off (B.length - off)) eR1_ok hmC (f := 25) (fn := f25) (by kernel_rfl) (by kernel_rfl) FnOrc.nil rfl (R25s2_ok ?_) R25s2_val R25s2_tab
      simp only [allP, Con.h, decide_eq_true_eq, not_false_eq_true, eq_self, true_and, and_true]
      omega
    · refine small_of (R := R25s4 B g gR off (B.length - off)) eR1_ok hmC (f := 25) (fn := f25) (by kernel_rfl) (by kernel_rfl) FnOrc.nil rfl (R25s4_ok ?_) R25s4_val R25s4_tab
      simp only [allP, Con.h, decide_eq_true_eq, not_false_eq_true, eq_self, true_and, and_true]
      omega
    · refine small_of (R := R25s8 B g gR off (B.length - off)) eR1_ok hmC (f := 25) (fn := f25) (by kernel_rfl) (by kernel_rfl) FnOrc.nil rfl (R25s8_ok ?_) R25s8_val R25s8_tab
      simp only [allP, Con.h, decide_eq_true_eq, not_false_eq_true, eq_self, true_and, and_true]
      omega
  by_cases hr8 : size = 8 ∧ 64 ≤ B.getD off 0
  · obtain ⟨rfl, h8⟩ := hr8
    have hr := rn_r hl h8
    simp only [rnVLaw, rnOLaw, rnELaw, hr]
    refine small_of (R := R25r B g gR off (B.length - off)) eR1_ok hmC (f := 25) (fn := f25) (by kernel_rfl) (by kernel_rfl) FnOrc.nil rfl (R25r_ok ?_) R25r_val R25r_tab
    simp only [allP, Con.h, addO_eq, Nat.add_zero, h8, decide_eq_true_eq, decide_eq_false_iff_not, not_false_eq_true, eq_self, true_and, and_true]
    omega
  have hlow : LowLaw B off size := fun h => by omega
  have hr := rn_g hs hl hlow
  simp only [rnVLaw, rnOLaw, rnELaw, hr]
  rcases hs with rfl | rfl | rfl | rfl
  · have hz : sizedLaw (OfNat.ofNat 1) := by unfold sizedLaw; decide
    have hlow' : LowLaw B off (OfNat.ofNat 1) := hlow
    refine small_of (R := R25g1 B g gR off (B.length - off)) eR1_ok hmC (f := 25) (fn := f25) (by kernel_rfl) (by kernel_rfl) FnOrc.nil rfl (R25g1_ok ?_) R25g1_val (by rw [R25g1_tab, addO_eq, Nat.sub_sub]; rfl)
    simp only [allP, Con.h, addO_eq, Nat.add_zero, hb, hz, hlow', decide_eq_true_eq, decide_eq_false_iff_not, not_false_eq_true, eq_self, true_and, and_true]
    omega
  · have hz : sizedLaw (OfNat.ofNat 2) := by unfold sizedLaw; decide
    have hlow' : LowLaw B off (OfNat.ofNat 2) := hlow
    refine small_of (R := R25g2 B g gR off (B.length - off)) eR1_ok hmC (f := 25) (fn := f25) (by kernel_rfl) (by kernel_rfl) FnOrc.nil rfl (R25g2_ok ?_) R25g2_val (by rw [R25g2_tab, addO_eq, Nat.sub_sub]; rfl)
    simp only [allP, Con.h, addO_eq, Nat.add_zero, hb, hz, hlow', decide_eq_true_eq, decide_eq_false_iff_not, not_false_eq_true, eq_self, true_and, and_true]
    omega
  · have hz : sizedLaw (OfNat.ofNat 4) := by unfold sizedLaw; decide
    have hlow' : LowLaw B off (OfNat.ofNat 4) := hlow
    refine small_of (R := R25g4 B g gR off (B.length - off)) eR1_ok hmC (f := 25) (fn := f25) (by kernel_rfl) (by kernel_rfl) FnOrc.nil rfl (R25g4_ok ?_) R25g4_val (by rw [R25g4_tab, addO_eq, Nat.sub_sub]; rfl)
    simp only [allP, Con.h, addO_eq, Nat.add_zero, hb, hz, hlow', decide_eq_true_eq, decide_eq_false_iff_not, not_false_eq_true, eq_self, true_and, and_true]
    omega
  · have hz : sizedLaw (OfNat.ofNat 8) := by unfold sizedLaw; decide
    have hlow' : LowLaw B off (OfNat.ofNat 8) := hlow
    have h8 : ¬ 64 ≤ B.getD off 0 := by have := hlow rfl; omega
    refine small_of (R := R25g8 B g gR off (B.length - off)) eR1_ok hmC (f := 25) (fn := f25) (by kernel_rfl) (by kernel_rfl) FnOrc.nil rfl (R25g8_ok ?_) R25g8_val (by rw [R25g8_tab, addO_eq, Nat.sub_sub]; rfl)
    simp only [allP, Con.h, addO_eq, Nat.add_zero, hb, hz, hlow', h8, decide_eq_true_eq, decide_eq_false_iff_not, not_false_eq_true, eq_self, true_and, and_true]
    omega
noncomputable def sm25 : Summary := fun args T => sm25c args T (xsAt T 1) (gAt T 1) (gAt T 0) (offOf (cAt T 0 0)) (lenOf (cAt T 0 0)) (iOf (cAt T 0 1)) (iOf (vAt args 1))
theorem sm25_ok : SmOk prog (fun _ => none) 25 sm25 := fun args T h => sm25c_ok h
noncomputable def S25r : Summary := callR sm25 [true]
theorem S25r_ok : SumOk prog (fun _ => none) 25 S25r := callR_ok sm25_ok [true]
end Go.Abs

set_option linter.unusedVariables false
set_option linter.unusedSimpArgs false
set_option maxRecDepth 100000
set_option maxHeartbeats 4000000
namespace Go.Abs
open Go.Proofs Go.Proofs.Try
/-! ### the reader: Length -/
noncomputable def R27f (B : List Int) (g gR off n : Nat) : Res := runF eR2 f27 [] 400 [.var 0 gR] [some ⟨.agg [.slice 1 1 g off n none, .int .i64 0, .bool true], gR, true, 60⟩, some ⟨.ints .u8 B, g, false, 5⟩] [none, some true, some true]
theorem R27f_ok {B : List Int} {g gR off n : Nat} (h : allP [.eqN gR gR, .eqN g g, .eqN gR gR, .eqN gR gR, .eqN gR gR, .eqN gR gR, .eqN gR gR, .eqN gR gR, .eqN gR gR, .eqN gR gR, .eqN gR gR, .eqN gR gR, .eqN g g, .p (decide (0 < (↑n : Int)) = true), .eqN gR gR, .eqN gR gR, .eqN gR gR, .eqN g g, .leI 1 (↑n : Int), .eqN g g, .leN (addO off 0 + 1) B.length, .rng (-9223372036854775808) (B.getD (addO
 off 0) 0 / 64) 9223372036854775807, .rng 0 (B.getD (addO off 0) 0 / 64) 64, .rng (-9223372036854775808) (1 * 2 ^ (B.getD (addO off 0) 0 / 64).toNat) 9223372036854775807, .p ((B.getD (addO off 0) 0 / 64 == 3) = true), .eqN gR gR, .eqN gR gR, .eqN gR gR]) : OkR (R27f B g gR off n) := OkR.dem (fl := bitsF 37 120331453504) (by kernel_rfl) (by kernel_rfl) (by kernel_rfl) h
theorem R27f_val {B : List Int} {g gR off n : Nat} : (R27f B g gR off n).val = .int .i64 0 := by kernel_rfl
theorem R27f_tab {B : List Int} {g gR off n : Nat} : (R27f B g gR off n).tab = [some ⟨.agg [.slice 1 1 g off n none, .int .i64 21, .bool true], gR, true, 60⟩, some ⟨.ints .u8 B, g, false, 5⟩] := by kernel_rfl
noncomputable def R27s (B : List Int) (g gR off n : Nat) : Res := runF eR2 f27 [] 400 [.var 0 gR] [some ⟨.agg [.slice 1 1 g off n none, .int .i64 0, .bool true], gR, true, 60⟩, some ⟨.ints .u8 B, g, false, 5⟩] [none, some true, some false, some true]
theorem R27s_ok {B : List Int} {g gR off n : Nat} (h : allP [.eqN gR gR, .eqN g g, .eqN gR gR, .eqN gR gR, .eqN gR gR, .eqN gR gR, .eqN gR gR, .eqN gR gR, .eqN gR gR, .eqN gR gR, .eqN gR gR, .eqN gR gR, .eqN g g, .p (decide (0 < (↑n : Int)) = true), .eqN gR gR, .eqN gR gR, .eqN gR gR, .eqN g g, .leI 1 (↑n : Int), .eqN g g, .leN (addO off 0 + 1) B.length, .rng (-9223372036854775808) (B.getD (addO
 off 0) 0 / 64) 9223372036854775807, .rng 0 (B.getD (addO off 0) 0 / 64) 64, .rng (-9223372036854775808) (1 * 2 ^ (B.getD (addO off 0) 0 / 64).toNat) 9223372036854775807, .p ((B.getD (addO off 0) 0 / 64 == 3) = false), .eqN gR gR, .eqN gR gR, .eqN gR gR, .eqN g g, .p (decide ((↑n : Int) < 1 * 2 ^ (B.getD (addO off 0) 0 / 64).toNat) = true), .eqN gR gR, .eqN gR gR, .eqN gR gR]) : OkR (R27s B g gR off
 n) := OkR.dem (fl := bitsF 43 7713833632832) (by kernel_rfl) (by kernel_rfl) (by kernel_rfl) h
theorem R27s_val {B : List Int} {g gR off n : Nat} : (R27s B g gR off n).val = .int .i64 0 := by kernel_rfl
theorem R27s_tab {B : List Int} {g gR off n : Nat} : (R27s B g gR off n).tab = [some ⟨.agg [.slice 1 1 g off n none, .int .i64 20, .bool true], gR, true, 60⟩, some ⟨.ints .u8 B, g, false, 5⟩] := by kernel_rfl
noncomputable def R27b (B : List Int) (g gR off n : Nat) : Res := runF eR2 f27 [] 400 [.var 0 gR] [some ⟨.agg [.slice 1 1 g off n none, .int .i64 0, .bool true], gR, true, 60⟩, some ⟨.ints .u8 B, g, false, 5⟩] [none, some true, some false, some false, some true, some true]
theorem R27b_ok {B : List Int} {g gR off n : Nat} (h : allP [.eqN gR gR, .eqN g g, .eqN gR gR, .eqN gR gR, .eqN gR gR, .eqN gR gR, .eqN gR gR, .eqN gR gR, .eqN gR gR, .eqN gR gR, .eqN gR gR, .eqN gR gR, .eqN g g, .p (decide (0 < (↑n : Int)) = true), .eqN gR gR, .eqN gR gR, .eqN gR gR, .eqN g g, .leI 1 (↑n : Int), .eqN g g, .leN (addO off 0 + 1) B.length, .rng (-9223372036854775808) (B.getD (addO
 off 0) 0 / 64) 9223372036854775807, .rng 0 (B.getD (addO off 0) 0 / 64) 64, .rng (-9223372036854775808) (1 * 2 ^ (B.getD (addO off 0) 0 / 64).toNat) 9223372036854775807, .p ((B.getD (addO off 0) 0 / 64 == 3) = false), .eqN gR gR, .eqN gR gR, .eqN gR gR, .eqN g g, .p (decide ((↑n : Int) < 1 * 2 ^ (B.getD (addO off 0) 0 / 64).toNat) = false), .eqN gR gR, .eqN g g, .p (sizedLaw (1 * 2 ^ (B.getD (addO
 off 0) 0 / 64).toNat)), .leN (1 * 2 ^ (B.getD (addO off 0) 0 / 64).toNat) n, .leN (off + n) B.length, .p (ByLaw B), .p (LowLaw B off (1 * 2 ^ (B.getD (addO off 0) 0 / 64).toNat)), .rng (-9223372036854775808) (8 * ((1 : Int) * 2 ^ (B.getD (addO off 0) 0 / 64).toNat)) 9223372036854775807, .rng (-9223372036854775808) (8 * ((1 : Int) * 2 ^ (B.getD (addO off 0) 0 / 64).toNat)) 9223372036854775807, .rng
 (-9223372036854775808) (8 * ((1 : Int) * 2 ^ (B.getD (addO off 0) 0 / 64).toNat) - 2) 9223372036854775807, .rng (-9223372036854775808) (8 * ((1 : Int) * 2 ^ (B.getD (addO off 0) 0 / 64).toNat) - 2) 9223372036854775807, .rng 0 (8 * ((1 : Int) * 2 ^ (B.getD (addO off 0) 0 / 64).toNat) - 2) 64, .rng (-9223372036854775808) (1 * 2 ^ (8 * ((1 : Int) * 2 ^ (B.getD (addO off 0) 0 / 64).toNat) - 2).toNat)
 9223372036854775807, .rng 0 (8 * ((1 : Int) * 2 ^ (B.getD (addO off 0) 0 / 64).toNat) - 2) 64, .rng (-9223372036854775808) (1 * 2 ^ (8 * ((1 : Int) * 2 ^ (B.getD (addO off 0) 0 / 64).toNat) - 2).toNat) 9223372036854775807, .rng (-9223372036854775808) (1 * 2 ^ (8 * ((1 : Int) * 2 ^ (B.getD (addO off 0) 0 / 64).toNat) - 2).toNat - 1) 9223372036854775807, .rng (-9223372036854775808) (1 * 2 ^ (8 * ((1
 : Int) * 2 ^ (B.getD (addO off 0) 0 / 64).toNat) - 2).toNat - 1) 9223372036854775807, .nn .i64 (numAtLaw (1 * 2 ^ (B.getD (addO off 0) 0 / 64).toNat) B off), .nn .i64 (1 * 2 ^ (8 * ((1 : Int) * 2 ^ (B.getD (addO off 0) 0 / 64).toNat) - 2).toNat - 1), .p (decide (0 < B.getD (addO off 0) 0 / 64) = true), .rng (-9223372036854775808) (4 * ((1 : Int) * 2 ^ (B.getD (addO off 0) 0 / 64).toNat))
 9223372036854775807, .rng (-9223372036854775808) (4 * ((1 : Int) * 2 ^ (B.getD (addO off 0) 0 / 64).toNat) - 2) 9223372036854775807, .rng 0 (4 * ((1 : Int) * 2 ^ (B.getD (addO off 0) 0 / 64).toNat) - 2) 64, .p ((iand (numAtLaw (1 * 2 ^ (B.getD (addO off 0) 0 / 64).toNat) B off) (1 * 2 ^ (8 * ((1 : Int) * 2 ^ (B.getD (addO off 0) 0 / 64).toNat) - 2).toNat - 1) / 2 ^ (4 * ((1 : Int) * 2 ^ (B.getD
 (addO off 0) 0 / 64).toNat) - 2).toNat == 0) = true), .eqN gR gR, .eqN gR gR, .eqN gR gR]) : OkR (R27b B g gR off n) := OkR.dem (fl := bitsF 76 66113130760192285230144) (by kernel_rfl) (by kernel_rfl) (by kernel_rfl) h
theorem R27b_val {B : List Int} {g gR off n : Nat} : (R27b B g gR off n).val = .int .i64 0 := by kernel_rfl
theorem R27b_tab {B : List Int} {g gR off n : Nat} : (R27b B g gR off n).tab = [some ⟨.agg [.slice 1 1 g off n none, .int .i64 21, .bool true], gR, true, 60⟩, some ⟨.ints .u8 B, g, false, 5⟩] := by kernel_rfl
noncomputable def R27g (B : List Int) (g gR off n : Nat) : Res := runF eR2 f27 [] 400 [.var 0 gR] [some ⟨.agg [.slice 1 1 g off n none, .int .i64 0, .bool true], gR, true, 60⟩, some ⟨.ints .u8 B, g, false, 5⟩] [none, some true, some false, some false, some false]
theorem R27g_ok {B : List Int} {g gR off n : Nat} (h : allP [.eqN gR gR, .eqN g g, .eqN gR gR, .eqN gR gR, .eqN gR gR, .eqN gR gR, .eqN gR gR, .eqN gR gR, .eqN gR gR, .eqN gR gR, .eqN gR gR, .eqN gR gR, .eqN g g, .p (decide (0 < (↑n : Int)) = true), .eqN gR gR, .eqN gR gR, .eqN gR gR, .eqN g g, .leI 1 (↑n : Int), .eqN g g, .leN (addO off 0 + 1) B.length, .rng (-9223372036854775808) (B.getD (addO
 off 0) 0 / 64) 9223372036854775807, .rng 0 (B.getD (addO off 0) 0 / 64) 64, .rng (-9223372036854775808) (1 * 2 ^ (B.getD (addO off 0) 0 / 64).toNat) 9223372036854775807, .p ((B.getD (addO off 0) 0 / 64 == 3) = false), .eqN gR gR, .eqN gR gR, .eqN gR gR, .eqN g g, .p (decide ((↑n : Int) < 1 * 2 ^ (B.getD (addO off 0) 0 / 64).toNat) = false), .eqN gR gR, .eqN g g, .p (sizedLaw (1 * 2 ^ (B.getD (addO
 off 0) 0 / 64).toNat)), .leN (1 * 2 ^ (B.getD (addO off 0) 0 / 64).toNat) n, .leN (off + n) B.length, .p (ByLaw B), .p (LowLaw B off (1 * 2 ^ (B.getD (addO off 0) 0 / 64).toNat)), .rng (-9223372036854775808) (8 * ((1 : Int) * 2 ^ (B.getD (addO off 0) 0 / 64).toNat)) 9223372036854775807, .rng (-9223372036854775808) (8 * ((1 : Int) * 2 ^ (B.getD (addO off 0) 0 / 64).toNat)) 9223372036854775807, .rng
 (-9223372036854775808) (8 * ((1 : Int) * 2 ^ (B.getD (addO off 0) 0 / 64).toNat) - 2) 9223372036854775807, .rng (-9223372036854775808) (8 * ((1 : Int) * 2 ^ (B.getD (addO off 0) 0 / 64).toNat) - 2) 9223372036854775807, .rng 0 (8 * ((1 : Int) * 2 ^ (B.getD (addO off 0) 0 / 64).toNat) - 2) 64, .rng (-9223372036854775808) (1 * 2 ^ (8 * ((1 : Int) * 2 ^ (B.getD (addO off 0) 0 / 64).toNat) - 2).toNat)
 9223372036854775807, .rng 0 (8 * ((1 : Int) * 2 ^ (B.getD (addO off 0) 0 / 64).toNat) - 2) 64, .rng (-9223372036854775808) (1 * 2 ^ (8 * ((1 : Int) * 2 ^ (B.getD (addO off 0) 0 / 64).toNat) - 2).toNat) 9223372036854775807, .rng (-9223372036854775808) (1 * 2 ^ (8 * ((1 : Int) * 2 ^ (B.getD (addO off 0) 0 / 64).toNat) - 2).toNat - 1) 9223372036854775807, .rng (-9223372036854775808) (1 * 2 ^ (8 * ((1
 : Int) * 2 ^ (B.getD (addO off 0) 0 / 64).toNat) - 2).toNat - 1) 9223372036854775807, .nn .i64 (numAtLaw (1 * 2 ^ (B.getD (addO off 0) 0 / 64).toNat) B off), .nn .i64 (1 * 2 ^ (8 * ((1 : Int) * 2 ^ (B.getD (addO off 0) 0 / 64).toNat) - 2).toNat - 1), .p (decide (0 < B.getD (addO off 0) 0 / 64) = false), .eqN gR gR, .eqN gR gR, .eqN gR gR, .leI 0 (1 * 2 ^ (B.getD (addO off 0) 0 / 64).toNat), .eqN g
 g, .leN (1 * 2 ^ (B.getD (addO off 0) 0 / 64).toNat) n, .eqN gR gR, .eqN gR gR, .eqN gR gR]) : OkR (R27g B g gR off n) := OkR.dem (fl := bitsF 79 529495341891776221824064) (by kernel_rfl) (by kernel_rfl) (by kernel_rfl) h
theorem R27g_val {B : List Int} {g gR off n : Nat} : (R27g B g gR off n).val = .int .i64 (iand (numAtLaw (1 * 2 ^ (B.getD (addO off 0) 0 / 64).toNat) B off) (1 * 2 ^ (8 * ((1 : Int) * 2 ^ (B.getD (addO off 0) 0 / 64).toNat) - 2).toNat - 1)) := by kernel_rfl
theorem R27g_tab {B : List Int} {g gR off n : Nat} : (R27g B g gR off n).tab = [some ⟨.agg [.slice 1 1 g (addO off (1 * 2 ^ (B.getD (addO off 0) 0 / 64).toNat)) (subO n (1 * 2 ^ (B.getD (addO off 0) 0 / 64).toNat)) none, .int .i64 0, .bool true], gR, true, 60⟩, some ⟨.ints .u8 B, g, false, 5⟩] := by kernel_rfl
noncomputable def R27h (B : List Int) (g gR off n : Nat) : Res := runF eR2 f27 [] 400 [.var 0 gR] [some ⟨.agg [.slice 1 1 g off n none, .int .i64 0, .bool true], gR, true, 60⟩, some ⟨.ints .u8 B, g, false, 5⟩] [none, some true, some false, some false, some true, some false]
theorem R27h_ok {B : List Int} {g gR off n : Nat} (h : allP [.eqN gR gR, .eqN g g, .eqN gR gR, .eqN gR gR, .eqN gR gR, .eqN gR gR, .eqN gR gR, .eqN gR gR, .eqN gR gR, .eqN gR gR, .eqN gR gR, .eqN gR gR, .eqN g g, .p (decide (0 < (↑n : Int)) = true), .eqN gR gR, .eqN gR gR, .eqN gR gR, .eqN g g, .leI 1 (↑n : Int), .eqN g g, .leN (addO off 0 + 1) B.length, .rng (-9223372036854775808) (B.getD (addO
 off 0) 0 / 64) 9223372036854775807, .rng 0 (B.getD (addO off 0) 0 / 64) 64, .rng (-9223372036854775808) (1 * 2 ^ (B.getD (addO off 0) 0 / 64).toNat) 9223372036854775807, .p ((B.getD (addO off 0) 0 / 64 == 3) = false), .eqN gR gR, .eqN gR gR, .eqN gR gR, .eqN g g, .p (decide ((↑n : Int) < 1 * 2 ^ (B.getD (addO off 0) 0 / 64).toNat) = false), .eqN gR gR, .eqN g g, .p (sizedLaw (1 * 2 ^ (B.getD (addO
 off 0) 0 / 64).toNat)), .leN (1 * 2 ^ (B.getD (addO off 0) 0 / 64).toNat) n, .leN (off + n) B.length, .p (ByLaw B), .p (LowLaw B off (1 * 2 ^ (B.getD (addO off 0) 0 / 64).toNat)), .rng (-9223372036854775808) (8 * ((1 : Int) * 2 ^ (B.getD (addO off 0) 0 / 64).toNat)) 9223372036854775807, .rng (-9223372036854775808) (8 * ((1 : Int) * 2 ^ (B.getD (addO off 0) 0 / 64).toNat)) 9223372036854775807, .rng
 (-9223372036854775808) (8 * ((1 : Int) * 2 ^ (B.getD (addO off 0) 0 / 64).toNat) - 2) 9223372036854775807, .rng (-9223372036854775808) (8 * ((1 : Int) * 2 ^ (B.getD (addO off 0) 0 / 64).toNat) - 2) 9223372036854775807, .rng 0 (8 * ((1 : Int) * 2 ^ (B.getD (addO off 0) 0 / 64).toNat) - 2) 64, .rng (-9223372036854775808) (1 * 2 ^ (8 * ((1 : Int) * 2 ^ (B.getD (addO off 0) 0 / 64).toNat) - 2).toNat)
 9223372036854775807, .rng 0 (8 * ((1 : Int) * 2 ^ (B.getD (addO off 0) 0 / 64).toNat) - 2) 64, .rng (-9223372036854775808) (1 * 2 ^ (8 * ((1 : Int) * 2 ^ (B.getD (addO off 0) 0 / 64).toNat) - 2).toNat) 9223372036854775807, .rng (-9223372036854775808) (1 * 2 ^ (8 * ((1 : Int) * 2 ^ (B.getD (addO off 0) 0 / 64).toNat) - 2).toNat - 1) 9223372036854775807, .rng (-9223372036854775808) (1 * 2 ^ (8 * ((1
 : Int) * 2 ^ (B.getD (addO off 0) 0 / 64).toNat) - 2).toNat - 1) 9223372036854775807, .nn .i64 (numAtLaw (1 * 2 ^ (B.getD (addO off 0) 0 / 64).toNat) B off), .nn .i64 (1 * 2 ^ (8 * ((1 : Int) * 2 ^ (B.getD (addO off 0) 0 / 64).toNat) - 2).toNat - 1), .p (decide (0 < B.getD (addO off 0) 0 / 64) = true), .rng (-9223372036854775808) (4 * ((1 : Int) * 2 ^ (B.getD (addO off 0) 0 / 64).toNat))
 9223372036854775807, .rng (-9223372036854775808) (4 * ((1 : Int) * 2 ^ (B.getD (addO off 0) 0 / 64).toNat) - 2) 9223372036854775807, .rng 0 (4 * ((1 : Int) * 2 ^ (B.getD (addO off 0) 0 / 64).toNat) - 2) 64, .p ((iand (numAtLaw (1 * 2 ^ (B.getD (addO off 0) 0 / 64).toNat) B off) (1 * 2 ^ (8 * ((1 : Int) * 2 ^ (B.getD (addO off 0) 0 / 64).toNat) - 2).toNat - 1) / 2 ^ (4 * ((1 : Int) * 2 ^ (B.getD
 (addO off 0) 0 / 64).toNat) - 2).toNat == 0) = false), .eqN gR gR, .eqN gR gR, .eqN gR gR, .leI 0 (1 * 2 ^ (B.getD (addO off 0) 0 / 64).toNat), .eqN g g, .leN (1 * 2 ^ (B.getD (addO off 0) 0 / 64).toNat) n, .eqN gR gR, .eqN gR gR, .eqN gR gR]) : OkR (R27h B g gR off n) := OkR.dem (fl := bitsF 83 8471925470268160765609024) (by kernel_rfl) (by kernel_rfl) (by kernel_rfl) h
theorem R27h_val {B : List Int} {g gR off n : Nat} : (R27h B g gR off n).val = .int .i64 (iand (numAtLaw (1 * 2 ^ (B.getD (addO off 0) 0 / 64).toNat) B off) (1 * 2 ^ (8 * ((1 : Int) * 2 ^ (B.getD (addO off 0) 0 / 64).toNat) - 2).toNat - 1)) := by kernel_rfl
theorem R27h_tab {B : List Int} {g gR off n : Nat} : (R27h B g gR off n).tab = [some ⟨.agg [.slice 1 1 g (addO off (1 * 2 ^ (B.getD (addO off 0) 0 / 64).toNat)) (subO n (1 * 2 ^ (B.getD (addO off 0) 0 / 64).toNat)) none, .int .i64 0, .bool true], gR, true, 60⟩, some ⟨.ints .u8 B, g, false, 5⟩] := by kernel_rfl
end Go.Abs

set_option linter.unusedVariables false
set_option linter.unusedSimpArgs false
set_option maxRecDepth 100000
set_option maxHeartbeats 4000000
namespace Go.Abs
open Go.Proofs Go.Proofs.Try
/-! ### what a reader's Length answers -/
def rlT (B : List Int) (off k : Nat) (m lo : Int) : Int × Nat × Int := if B.length - off < k then (0, off, 20) else if iand (numAtLaw k B off) m < lo then (0, off, 21) else (iand (numAtLaw k B off) m, off + k, 0)
def rlP (B : List Int) (off : Nat) (e : Int) : Int × Nat × Int :=
  if e ≠ 0 then (0, off, e) else if B.length - off = 0 then (0, off, 20) else if B.getD off 0 / 64 = 3 then (0, off, 21) else if B.getD off 0 / 64 = 0 then rlT B off 1 63 0 else if B.getD off 0 / 64 = 1 then rlT B off 2 16383 64 else rlT B off 4 1073741823 16384
def rlVLaw (B : List Int) (off : Nat) (e : Int) : Int := (rlP B off e).1
def rlOLaw (B : List Int) (off : Nat) (e : Int) : Nat := (rlP B off e).2.1
def rlELaw (B : List Int) (off : Nat) (e : Int) : Int := (rlP B off e).2.2
theorem rl_e {B : List Int} {off : Nat} {e : Int} (h : e ≠ 0) : rlP B off e = (0, off, e) := if_pos h
theorem rl_z {B : List Int} {off : Nat} (h : B.length - off = 0) : rlP B off 0 = (0, off, 20) := by unfold rlP; rw [if_neg (by decide), if_pos h]
theorem rl_f {B : List Int} {off : Nat} (h : ¬ B.length - off = 0) (h2 : B.getD off 0 / 64 = 3) : rlP B off 0 = (0, off, 21) := by unfold rlP; rw [if_neg (by decide), if_neg h, if_pos h2]
theorem rl_0 {B : List Int} {off : Nat} (h : ¬ B.length - off = 0) (h2 : B.getD off 0 / 64 = 0) : rlP B off 0 = rlT B off 1 63 0 := by unfold rlP; rw [if_neg (by decide), if_neg h, h2, if_neg (by decide), if_pos rfl]
theorem rl_1 {B : List Int} {off : Nat} (h : ¬ B.length - off = 0) (h2 : B.getD off 0 / 64 = 1) : rlP B off 0 = rlT B off 2 16383 64 := by unfold rlP; rw [if_neg (by decide), if_neg h, h2, if_neg (by decide), if_neg (by decide), if_pos rfl]
theorem rl_2 {B : List Int} {off : Nat} (h : ¬ B.length - off = 0) (h2 : B.getD off 0 / 64 = 2) : rlP B off 0 = rlT B off 4 1073741823 16384 := by unfold rlP; rw [if_neg (by decide), if_neg h, h2, if_neg (by decide), if_neg (by decide), if_neg (by decide)]
theorem rlT_s {B : List Int} {off k : Nat} {m lo : Int} (h : B.length - off < k) : rlT B off k m lo = (0, off, 20) := if_pos h
theorem rlT_b {B : List Int} {off k : Nat} {m lo : Int} (h : ¬ B.length - off < k) (h2 : iand (numAtLaw k B off) m < lo) : rlT B off k m lo = (0, off, 21) := by unfold rlT; rw [if_neg h, if_pos h2]
theorem rlT_g {B : List Int} {off k : Nat} {m lo : Int} (h : ¬ B.length - off < k) (h2 : ¬ iand (numAtLaw k B off) m < lo) : rlT B off k m lo = (iand (numAtLaw k B off) m, off + k, 0) := by unfold rlT; rw [if_neg h, if_neg h2]
theorem iand_pos (a b : Int) : 0 ≤ iand a b := Int.natCast_nonneg _
noncomputable def sm27c (args : List AVal) (T : Tab) (B : List Int) (g : Nat) (gR : Nat) (off : Nat) (n : Nat) (e : Int) : Res := ⟨[.tab T [some ⟨.agg [.slice 1 1 g off n none, .int .i64 e, .bool true], gR, true, 60⟩, some ⟨.ints .u8 B, g, false, 5⟩], .val (.tuple args) (.tuple [.var 0 gR]), .eqN n (B.length - off), .leN off B.length, .p (ByLaw B)], .int .i64 (rlVLaw B off e), [some ⟨.agg [.slice 1 1 g (rlOLaw B off e) (B.length - rlOLaw B off e) none, .int .i64 (rlELaw B off e), .bool true], gR, true, 60⟩, some ⟨.ints .u8 B, g, false, 5⟩]⟩
theorem sm27c_ok {args : List AVal} {T : Tab} {B : List Int} {g : Nat} {gR : Nat} {off : Nat} {n : Nat} {e : Int} (h : allP (sm27c args T B g gR off n e).cs) : Small prog (fun _ => none) 27 args T (sm27c args T B g gR off n e).val (sm27c args T B g gR off n e).tab := by
  obtain ⟨hT, hv, h1, h2, h3, _⟩ := h
  simp only [Con.h] at hT hv h1 h2 h3
  injection hv with hv
  subst hT hv
  show Small prog (fun _ => none) 27 [.var 0 gR] [some ⟨.agg [.slice 1 1 g off n none, .int .i64 e, .bool true], gR, true, 60⟩, some ⟨.ints .u8 B, g, false, 5⟩] (.int .i64 (rlVLaw B off e)) [some ⟨.agg [.slice 1 1 g (rlOLaw B off e) (B.length - rlOLaw B off e) none, .int .i64 (rlELaw B off e), .bool true], gR, true, 60⟩, some ⟨.ints .u8 B, g, false, 5⟩]
  have hb : ByLaw B := h3
  subst h1
  have hB := hb off
  by_cases he : e = 0
  rotate_left
  · have hr := rl_e (B := B) (off := off) he
    have hne : (e != 0) = true := bne_iff_ne.2 he
    simp only [rlVLaw, rlOLaw, rlELaw, hr]
    refine small_of (R := R27e B g gR off (B.length - off) e) eR2_ok hmC (f := 27) (fn := f27) (by kernel_rfl) (by kernel_rfl) FnOrc.nil rfl (R27e_ok ?_) R27e_val R27e_tab
    simp only [allP, Con.h, hne, not_false_eq_true, eq_self, true_and, and_true]
  subst he
  by_cases hn : B.length - off = 0
  · have hr := rl_z hn
    simp only [rlVLaw, rlOLaw, rlELaw, hr]
    refine small_of (R := R27z B g gR off (B.length - off)) eR2_ok hmC (f := 27) (fn := f27) (by kernel_rfl) (by kernel_rfl) FnOrc.nil rfl (R27z_ok ?_) R27z_val R27z_tab
    simp only [allP, Con.h, decide_eq_true_eq, decide_eq_false_iff_not, not_false_eq_true, eq_self, true_and, and_true]
    omega
  by_cases ht : B.getD off 0 / 64 = 3
  · have hr := rl_f hn ht
    simp only [rlVLaw, rlOLaw, rlELaw, hr]
    refine small_of (R := R27f B g gR off (B.length - off)) eR2_ok hmC (f := 27) (fn := f27) (by kernel_rfl) (by kernel_rfl) FnOrc.nil rfl (R27f_ok ?_) R27f_val R27f_tab
    simp only [allP, Con.h, ht, addO_eq, subO_eq, Nat.add_zero, nonneg, ht, Int.reduceMul, Int.reducePow, Int.reduceSub, Int.reduceAdd, Int.reduceToNat, Nat.reducePow, Nat.reduceMul, Nat.reduceSub, Int.reduceLT, Int.reduceLE, Nat.reduceLT, Nat.reduceLeDiff, Int.one_mul, Nat.one_mul, decide_true, decide_false, decide_eq_true_eq, decide_eq_false_iff_not, beq_iff_eq, beq_eq_false_iff_ne, ne_eq, not_false_eq_true, eq_self, true_and, and_true]
    omega
  have htt : B.getD off 0 / 64 = 0 ∨ B.getD off 0 / 64 = 1 ∨ B.getD off 0 / 64 = 2 := by omega
  clear ht
  rcases htt with ht | ht | ht
  · have hz : sizedLaw 1 := by unfold sizedLaw; decide
    have hlow : LowLaw B off 1 := fun h => absurd h (by decide)
    have hrg := beN_rng hb off 1
    have hrg1 : 0 ≤ numAtLaw 1 B off := hrg.1
    have hrg2 : numAtLaw 1 B off < 256 := hrg.2
    have hip := iand_pos (numAtLaw 1 B off) 63
    by_cases hl : B.length - off < 1
    · have hr := (rl_0 hn ht).trans (rlT_s hl)
      simp only [rlVLaw, rlOLaw, rlELaw, hr]
      refine small_of (R := R27s B g gR off (B.length - off)) eR2_ok hmC (f := 27) (fn := f27) (by kernel_rfl) (by kernel_rfl) FnOrc.nil rfl (R27s_ok ?_) R27s_val R27s_tab
      simp only [allP, Con.h, ht, addO_eq, subO_eq, Nat.add_zero, nonneg, ht, Int.reduceMul, Int.reducePow, Int.reduceSub, Int.reduceAdd, Int.reduceToNat, Nat.reducePow, Nat.reduceMul, Nat.reduceSub, Int.reduceLT, Int.reduceLE, Nat.reduceLT, Nat.reduceLeDiff, Int.one_mul, Nat.one_mul, decide_true, decide_false, decide_eq_true_eq, decide_eq_false_iff_not, beq_iff_eq, beq_eq_false_iff_ne, ne_eq, not_false_eq_true, eq_self, true_and, and_true]
      omega
    have hv : ¬ iand (numAtLaw 1 B off) 63 < 0 := by omega
    have hr := (rl_0 hn ht).trans (rlT_g hl hv)
    simp only [rlVLaw, rlOLaw, rlELaw, hr]
    refine small_of (R := R27g B g gR off (B.length - off)) eR2_ok hmC (f := 27) (fn := f27) (by kernel_rfl) (by kernel_rfl) FnOrc.nil rfl (R27g_ok ?_) (by rw [R27g_val]; simp only [addO_eq, Nat.add_zero, ht]; rfl) (by rw [R27g_tab]; simp only [addO_eq, subO_eq, Nat.add_zero, ht, Nat.sub_sub]; rfl)
    simp only [allP, Con.h, ht, addO_eq, subO_eq, Nat.add_zero, nonneg, hz, hb, hlow, Int.reduceMul, Int.reducePow, Int.reduceSub, Int.reduceAdd, Int.reduceToNat, Nat.reducePow, Nat.reduceMul, Nat.reduceSub, Int.reduceLT, Int.reduceLE, Nat.reduceLT, Nat.reduceLeDiff, Int.one_mul, Nat.one_mul, decide_true, decide_false, decide_eq_true_eq, decide_eq_false_iff_not, beq_iff_eq, beq_eq_false_iff_ne, ne_eq, not_false_eq_true, eq_self, true_and, and_true]
    omega
  · have hz : sizedLaw 2 := by unfold sizedLaw; decide
    have hlow : LowLaw B off 2 := fun h => absurd h (by decide)
    have hrg := beN_rng hb off 2
    have hrg1 : 0 ≤ numAtLaw 2 B off := hrg.1
    have hrg2 : numAtLaw 2 B off < 65536 := hrg.2
    have hip := iand_pos (numAtLaw 2 B off) 16383
    by_cases hl : B.length - off < 2
    · have hr := (rl_1 hn ht).trans (rlT_s hl)
      simp only [rlVLaw, rlOLaw, rlELaw, hr]
      refine small_of (R := R27s B g gR off (B.length - off)) eR2_ok hmC (f := 27) (fn := f27) (by kernel_rfl) (by kernel_rfl) FnOrc.nil rfl (R27s_ok ?_) R27s_val R27s_tab
      simp only [allP, Con.h, ht, addO_eq, subO_eq, Nat.add_zero, nonneg, ht, Int.reduceMul, Int.reducePow, Int.reduceSub, Int.reduceAdd, Int.reduceToNat, Nat.reducePow, Nat.reduceMul, Nat.reduceSub, Int.reduceLT, Int.reduceLE, Nat.reduceLT, Nat.reduceLeDiff, Int.one_mul, Nat.one_mul, decide_true, decide_false, decide_eq_true_eq, decide_eq_false_iff_not, beq_iff_eq, beq_eq_false_iff_ne, ne_eq, not_false_eq_true, eq_self, true_and, and_true]
      omega
    by_cases hv : iand (numAtLaw 2 B off) 16383 < 64
    · have hr := (rl_1 hn ht).trans (rlT_b hl hv)
      simp only [rlVLaw, rlOLaw, rlELaw, hr]
      refine small_of (R := R27b B g gR off (B.length - off)) eR2_ok hmC (f := 27) (fn := f27) (by kernel_rfl) (by kernel_rfl) FnOrc.nil rfl (R27b_ok ?_) R27b_val R27b_tab
      simp only [allP, Con.h, ht, addO_eq, subO_eq, Nat.add_zero, nonneg, hz, hb, hlow, Int.reduceMul, Int.reducePow, Int.reduceSub, Int.reduceAdd, Int.reduceToNat, Nat.reducePow, Nat.reduceMul, Nat.reduceSub, Int.reduceLT, Int.reduceLE, Nat.reduceLT, Nat.reduceLeDiff, Int.one_mul, Nat.one_mul, decide_true, decide_false, decide_eq_true_eq, decide_eq_false_iff_not, beq_iff_eq, beq_eq_false_iff_ne, ne_eq, not_false_eq_true, eq_self, true_and, and_true]
      omega
    have hr := (rl_1 hn ht).trans (rlT_g hl hv)
    simp only [rlVLaw, rlOLaw, rlELaw, hr]
    refine small_of (R := R27h B g gR off (B.length - off)) eR2_ok hmC (f := 27) (fn := f27) (by kernel_rfl) (by kernel_rfl) FnOrc.nil rfl (R27h_ok ?_) (by rw [R27h_val]; simp only [addO_eq, Nat.add_zero, ht]; rfl) (by rw [R27h_tab]; simp only [addO_eq, subO_eq, Nat.add_zero, ht, Nat.sub_sub]; rfl)
    simp only [allP, Con.h, ht, addO_eq, subO_eq, Nat.add_zero, nonneg, hz, hb, hlow, Int.reduceMul, Int.reducePow, Int.reduceSub, Int.reduceAdd, Int.reduceToNat, Nat.reducePow, Nat.reduceMul, Nat.reduceSub, Int.reduceLT, Int.reduceLE, Nat.reduceLT, Nat.reduceLeDiff, Int.one_mul, Nat.one_mul, decide_true, decide_false, decide_eq_true_eq, decide_eq_false_iff_not, beq_iff_eq, beq_eq_false_iff_ne, ne_eq, not_false_eq_true, eq_self, true_and, and_true]
    omega
  · have hz : sizedLaw 4 := by unfold sizedLaw; decide
    have hlow : LowLaw B off 4 := fun h => absurd h (by decide)
    have hrg := beN_rng hb off 4
    have hrg1 : 0 ≤ numAtLaw 4 B off := hrg.1
    have hrg2 : numAtLaw 4 B off < 4294967296 := hrg.2
    have hip := iand_pos (numAtLaw 4 B off) 1073741823
    by_cases hl : B.length - off < 4
    · have hr := (rl_2 hn ht).trans (rlT_s hl)
      simp only [rlVLaw, rlOLaw, rlELaw, hr]
      refine small_of (R := R27s B g gR off (B.length - off)) eR2_ok hmC (f := 27) (fn := f27) (by kernel_rfl) (by kernel_rfl) FnOrc.nil rfl (R27s_ok ?_) R27s_val R27s_tab
      simp only [allP, Con.h, ht, addO_eq, subO_eq, Nat.add_zero, nonneg, ht, Int.reduceMul, Int.reducePow, Int.reduceSub, Int.reduceAdd, Int.reduceToNat, Nat.reducePow, Nat.reduceMul, Nat.reduceSub, Int.reduceLT, Int.reduceLE, Nat.reduceLT, Nat.reduceLeDiff, Int.one_mul, Nat.one_mul, decide_true, decide_false, decide_eq_true_eq, decide_eq_false_iff_not, beq_iff_eq, beq_eq_false_iff_ne, ne_eq, not_false_eq_true, eq_self, true_and, and_true]
      omega
    by_cases hv : iand (numAtLaw 4 B off) 1073741823 < 16384
    · have hr := (rl_2 hn ht).trans (rlT_b hl hv)
      simp only [rlVLaw, rlOLaw, rlELaw, hr]
      refine small_of (R := R27b B g gR off (B.length - off)) eR2_ok hmC (f := 27) (fn := f27) (by kernel_rfl) (by kernel_rfl) FnOrc.nil rfl (R27b_ok ?_) R27b_val R27b_tab
      simp only [allP, Con.h, ht, addO_eq, subO_eq, Nat.add_zero, nonneg, hz, hb, hlow, Int.reduceMul, Int.reducePow, Int.reduceSub, Int.reduceAdd, Int.reduceToNat, Nat.reducePow, Nat.reduceMul, Nat.reduceSub, Int.reduceLT, Int.reduceLE, Nat.reduceLT, Nat.reduceLeDiff, Int.one_mul, Nat.one_mul, decide_true, decide_false, decide_eq_true_eq, decide_eq_false_iff_not, beq_iff_eq, beq_eq_false_iff_ne, ne_eq, not_false_eq_true, eq_self, true_and, and_true]
      omega
    have hr := (rl_2 hn ht).trans (rlT_g hl hv)
    simp only [rlVLaw, rlOLaw, rlELaw, hr]
    refine small_of (R := R27h B g gR off (B.length - off)) eR2_ok hmC (f := 27) (fn := f27) (by kernel_rfl) (by kernel_rfl) FnOrc.nil rfl (R27h_ok ?_) (by rw [R27h_val]; simp only [addO_eq, Nat.add_zero, ht]; rfl) (by rw [R27h_tab]; simp only [addO_eq, subO_eq, Nat.add_zero, ht, Nat.sub_sub]; rfl)
    simp only [allP, Con.h, ht, addO_eq, subO_eq, Nat.add_zero, nonneg, hz, hb, hlow, Int.reduceMul, Int.reducePow, Int.reduceSub, Int.reduceAdd, Int.reduceToNat, Nat.reducePow, Nat.reduceMul, Nat.reduceSub, Int.reduceLT, Int.reduceLE, Nat.reduceLT, Nat.reduceLeDiff, Int.one_mul, Nat.one_mul, decide_true, decide_false, decide_eq_true_eq, decide_eq_false_iff_not, beq_iff_eq, beq_eq_false_iff_ne, ne_eq, not_false_eq_true, eq_self, true_and, and_true]
    omega
noncomputable def sm27 : Summary := fun args T => sm27c args T (xsAt T 1) (gAt T 1) (gAt T 0) (offOf (cAt T 0 0)) (lenOf (cAt T 0 0)) (iOf (cAt T 0 1))
theorem sm27_ok : SmOk prog (fun _ => none) 27 sm27 := fun args T h => sm27c_ok h
noncomputable def S27r : Summary := callR sm27 [true]
theorem S27r_ok : SumOk prog (fun _ => none) 27 S27r := callR_ok sm27_ok [true]
end Go.Abs

set_option linter.unusedVariables false
set_option linter.unusedSimpArgs false
set_option maxRecDepth 8000
namespace Go.Abs
open Go.Proofs Go.Proofs.Try
/-! ### nothing, told as a slice of an empty object -/
def subA : Fm → Fm → Prop
  | [], _ => True
  | (t, v) :: r, fm => look fm t = some v ∧ subA r fm
theorem subA_ok {fm : Fm} : ∀ {f : Fm}, subA f fm → ∀ t v, look f t = some v → look fm t = some v
  | [], _, t, v, h => by cases h
  | (s, u) :: r, h, t, v, hl => by
    simp only [look] at hl
    split at hl
    · rename_i e
      have := Nat.eq_of_beq_eq_true e
      subst this
      injection hl with hl; subst hl
      exact h.1
    · exact subA_ok h.2 t v hl
theorem AWp.fmSub {E : Env} {n k : Nat} {c : Code} {fm f : Fm} {T : Tab} {post : AExit → Fm → Tab → Prop} (hs : subA f fm) (h : AWp E n k c f T post) : AWp E n k c fm T post :=
  fun rr D ν a w hr hrd => h rr D ν a w ⟨hr.hr, fun t v hv => hr.fm t v (subA_ok hs t v hv), hr.size, hr.defers⟩ hrd
theorem HR.pushEmptyG {gl : Nat → Option AVal} {ν : Nu} {T : Tab} {w : World} (hr : HR gl ν T w) (kk : IntKind) (et : TypeId) (gg : Nat) :
    ∃ l0 : Loc, l0.g = gg ∧ l0.room = 0 ∧ HR gl (upd ν T.length l0) (T ++ [some ⟨.ints kk [], gg, true, et⟩]) w ∧ NuLe ν (upd ν T.length l0) ∧ (∀ b, Own (upd ν T.length l0) (T ++ [some ⟨.ints kk [], gg, true, et⟩]) b → Own ν T b) := by
  have hn : ν T.length = none := by
    cases hν : ν T.length with
    | none => rfl
    | some l => have := hr.lt _ l hν; omega
  obtain ⟨l0, hl0⟩ : ∃ l0 : Loc, l0 = ⟨⟨0, 0, none⟩, gg, 0⟩ := ⟨_, rfl⟩
  have hm : NuLe ν (upd ν T.length l0) := NuLe.upd_new (ν := ν) l0 hn
  have same : ∀ p, p ≠ T.length → upd ν T.length l0 p = ν p := fun p hp => upd_other ν l0 hp
  have self : upd ν T.length l0 T.length = some l0 := upd_same ν _ l0
  have getT : ∀ p o, (T ++ [some (⟨.ints kk [], gg, true, et⟩ : AObj)])[p]? = some o → (p < T.length ∧ T[p]? = some o) ∨ (p = T.length ∧ o = some ⟨.ints kk [], gg, true, et⟩) := by
    intro p o ho
    rcases Nat.lt_or_ge p T.length with hp | hp
    · rw [List.getElem?_append_left hp] at ho; exact .inl ⟨hp, ho⟩
    · rw [List.getElem?_append_right hp] at ho
      have hlt := (List.getElem?_eq_some_iff.1 ho).1
      have hp0 : p = T.length := by simp at hlt; omega
      subst hp0
      simp at ho
      exact .inr ⟨rfl, ho.symm⟩
  have hown : ∀ b, Own (upd ν T.length l0) (T ++ [some ⟨.ints kk [], gg, true, et⟩]) b → Own ν T b := by
    rintro b ⟨p, o, l, h1, h2, h3, h4, h5⟩
    rcases getT p _ h1 with ⟨hp, h1⟩ | ⟨hp, h1⟩
    · rw [same p (by omega)] at h3; exact ⟨p, o, l, h1, h2, h3, h4, h5⟩
    · subst hp; rw [self] at h3; injection h3 with h3; subst h3; subst hl0; simp at h4
  refine ⟨l0, by rw [hl0], by rw [hl0], ⟨fun p o l ho hl => ?_, fun p l hl => ?_, fun p hp => ?_, fun p l hl h0 => ?_, fun p q o o' l l' ho ho' hw hne hl hl' h0 h0' => ?_, fun b d hb => ?_⟩, hm, hown⟩
  · rcases getT p _ ho with ⟨hp, h1⟩ | ⟨hp, h1⟩
    · rw [same p (by omega)] at hl
      obtain ⟨g1, g2⟩ := hr.obj p o l h1 hl
      exact ⟨g1, g2.kept hm fun _ => rfl⟩
    · subst hp; rw [self] at hl; injection hl with hl; subst hl; subst hl0
      injection h1 with h1; subst h1
      exact ⟨rfl, .ints _ _, .inr (.inr ⟨rfl, rfl⟩)⟩
  · by_cases e : p = T.length
    · subst e; simp
    · rw [same p e] at hl; have := hr.lt p l hl; simp; omega
  · rcases getT p _ hp with ⟨hp', h1⟩ | ⟨hp', h1⟩
    · rw [same p (by omega)]; exact hr.hole p h1
    · cases h1
  · by_cases e : p = T.length
    · subst e; rw [self] at hl; injection hl with hl; subst hl; subst hl0; simp at h0
    · rw [same p e] at hl; exact hr.blk p l hl h0
  · rcases getT p _ ho with ⟨hp, h1⟩ | ⟨hp, h1⟩
    · rcases getT q _ ho' with ⟨hq, h2⟩ | ⟨hq, h2⟩
      · rw [same p (by omega)] at hl; rw [same q (by omega)] at hl'
        exact hr.sep p q o o' l l' h1 h2 hw hne hl hl' h0 h0'
      · subst hq; rw [self] at hl'; injection hl' with hl'; subst hl'; subst hl0; simp at h0'
    · subst hp; rw [self] at hl; injection hl with hl; subst hl; subst hl0; simp at h0
  · obtain ⟨h1, h2⟩ := hr.glob b d hb
    exact ⟨fun h3 => h1 (hown b h3), h2⟩

theorem To.outNil {E : Env} {n k : Nat} {c : Code} {fm fm1 fm2 : Fm} {T T1 : Tab} {ex : AExit} (kk : IntKind) (et : TypeId) (gg : Nat) (h : To E n k c fm T ex fm1 T1)
    (hf : ∀ t v, look fm2 t = some v → look fm1 t = some v ∨ (look fm1 t = some .nilSlice ∧ v = .slice 1 T1.length gg 0 0 none)) : To E n k c fm T ex fm2 (T1 ++ [some ⟨.ints kk [], gg, true, et⟩]) := by
  intro rr D ν a w hs hrd
  refine wpIn_mono (h rr D ν a w hs hrd) fun e a' w' ⟨ex', fm', T', ν', e1, ⟨e2, e3, e4⟩, ⟨ms, s', mk⟩, n', f'⟩ => ?_
  subst e2 e3 e4
  obtain ⟨l0, g1, g2, g3, g4, g5⟩ := s'.hr.pushEmptyG kk et gg
  refine ⟨ex', fm2, _, _, e1, ⟨rfl, rfl, rfl⟩, ⟨ms, ⟨g3, fun t v hv => ?_, s'.size, s'.defers⟩, mk⟩, n'.trans (g4.b k), f'.sub g5⟩
  rcases hf t v hv with h1 | ⟨h1, rfl⟩
  · exact (s'.fm t v h1).mono g4
  · have := s'.fm t _ h1
    generalize a'.tmps.getD t undef = x at this ⊢
    cases this
    exact .sliceZ none (upd_same _ _ _) g1.symm (.inr ⟨rfl, by rw [g2]; exact Nat.le_refl _⟩)
/-! Clone -/
noncomputable def R44 (zs : List Int) (g off n : Nat) (cp : Option Nat) (ow : Bool) : Res := resG 1 [0,1] (runF (eC0 []) f44 [] 400 [.slice 1 0 g off n cp] [some ⟨.ints .u8 zs, g, ow, 5⟩] [some false])
theorem R44_ok {zs : List Int} {g off n : Nat} {cp : Option Nat} {ow : Bool} (h : allP [.eqN g g, .leN 1 n, .p (false = false), .leN n 140737488355328, .eqN g g, .leN (off + n) zs.length]) : OkR (R44 zs g off n cp ow) := OkR.dem (fl := [false, false, false, true, true, true, false, false, false, true]) (by kernel_rfl) (by kernel_rfl) (by kernel_rfl) h
theorem R44_val {zs : List Int} {g off n : Nat} {cp : Option Nat} {ow : Bool} : (R44 zs g off n cp ow).val = .slice 1 1 1 0 n none := by kernel_rfl
theorem R44_tab {zs : List Int} {g off n : Nat} {cp : Option Nat} {ow : Bool} : (R44 zs g off n cp ow).tab = [some ⟨.ints .u8 zs, g, ow, 5⟩, some ⟨.ints .u8 ([] ++ List.take n (dropO off zs)), 1, true, 5⟩] := by kernel_rfl
noncomputable def c44a : Code := match bodyOf f44 with | .seq _ (.seq (.seq r _) _) => r | c => c
noncomputable def r44ops : Array Oper := match c44a with | .region _ o _ => o | _ => #[]
noncomputable def r44a : Code := match bodyOf f44 with | .seq r _ => r | c => c
noncomputable def r44b : Code := match bodyOf f44 with | .seq _ (.seq (.seq _ c) _) => c | c => c
noncomputable def r44c : Code := match bodyOf f44 with | .seq _ (.seq (.seq _ _) c) => c | c => c
theorem split44 : bodyOf f44 = .seq r44a (.seq (.seq (.region 1 r44ops false) r44b) r44c) := by kernel_rfl
noncomputable def P44 (zs : List Int) (g off n : Nat) (cp : Option Nat) (ow : Bool) : Out := trim 1 1 [0] (run (eC0 []) 8 ⟨1, []⟩ 400 r44a [(0, .slice 1 0 g off n cp)] [some ⟨.ints .u8 zs, g, ow, 5⟩] [])
theorem P44_ok {zs : List Int} {g off n : Nat} {cp : Option Nat} {ow : Bool} (h : allP []) : Ok (P44 zs g off n cp ow) := Ok.dem (fl := []) (by kernel_rfl) (by kernel_rfl) (by kernel_rfl) h
theorem P44_ex {zs : List Int} {g off n : Nat} {cp : Option Nat} {ow : Bool} : (P44 zs g off n cp ow).ex = .normal := by kernel_rfl
theorem P44_fm {zs : List Int} {g off n : Nat} {cp : Option Nat} {ow : Bool} : (P44 zs g off n cp ow).fm = [(0, .slice 1 0 g off n cp)] := by kernel_rfl
theorem P44_tab {zs : List Int} {g off n : Nat} {cp : Option Nat} {ow : Bool} : (P44 zs g off n cp ow).tab = [some ⟨.ints .u8 zs, g, ow, 5⟩] := by kernel_rfl
noncomputable def Q44 (zs : List Int) (g off n : Nat) (cp : Option Nat) (ow : Bool) : Out := runOps (eC0 []) r44ops.toList 8 (r44ops.toList.take 1) [(0, .slice 1 0 g off n cp)] (([some ⟨.ints .u8 zs, g, ow, 5⟩] : Tab) ++ holes (cntA (eC0 []) (r44ops.toList.take 1))) ([some ⟨.ints .u8 zs, g, ow, 5⟩] : Tab).length []
theorem Q44_ok {zs : List Int} {g off n : Nat} {cp : Option Nat} {ow : Bool} (h : allP []) : Ok (Q44 zs g off n cp ow) := Ok.dem (fl := []) (by kernel_rfl) (by kernel_rfl) (by kernel_rfl) h
theorem Q44_fm {zs : List Int} {g off n : Nat} {cp : Option Nat} {ow : Bool} : (Q44 zs g off n cp ow).fm = [(3, .slice 1 0 g off n cp), (0, .slice 1 0 g off n cp)] := by kernel_rfl
theorem Q44_tab {zs : List Int} {g off n : Nat} {cp : Option Nat} {ow : Bool} : (Q44 zs g off n cp ow).tab = [some ⟨.ints .u8 zs, g, ow, 5⟩] := by kernel_rfl
noncomputable def U44 (zs : List Int) (g off n : Nat) (cp : Option Nat) (ow : Bool) : Out := trim 1 1 [2] (run (eC0 []) 8 ⟨1, []⟩ 400 r44b [(0, .slice 1 0 g off n cp), (4, .bool true)] [some ⟨.ints .u8 zs, g, ow, 5⟩] [])
theorem U44_ok {zs : List Int} {g off n : Nat} {cp : Option Nat} {ow : Bool} (h : allP []) : Ok (U44 zs g off n cp ow) := Ok.dem (fl := []) (by kernel_rfl) (by kernel_rfl) (by kernel_rfl) h
theorem U44_ex {zs : List Int} {g off n : Nat} {cp : Option Nat} {ow : Bool} : (U44 zs g off n cp ow).ex = .ret := by kernel_rfl
theorem U44_fm {zs : List Int} {g off n : Nat} {cp : Option Nat} {ow : Bool} : (U44 zs g off n cp ow).fm = [(2, .nilSlice)] := by kernel_rfl
theorem U44_tab {zs : List Int} {g off n : Nat} {cp : Option Nat} {ow : Bool} : (U44 zs g off n cp ow).tab = [some ⟨.ints .u8 zs, g, ow, 5⟩] := by kernel_rfl
noncomputable def W44 (zs : List Int) (g off n : Nat) (cp : Option Nat) (ow : Bool) : Out := trim 1 1 [0] (run (eC0 []) 8 ⟨1, []⟩ 400 r44b [(0, .slice 1 0 g off n cp), (4, .bool false)] [some ⟨.ints .u8 zs, g, ow, 5⟩] [])
theorem W44_ok {zs : List Int} {g off n : Nat} {cp : Option Nat} {ow : Bool} (h : allP []) : Ok (W44 zs g off n cp ow) := Ok.dem (fl := []) (by kernel_rfl) (by kernel_rfl) (by kernel_rfl) h
theorem W44_ex {zs : List Int} {g off n : Nat} {cp : Option Nat} {ow : Bool} : (W44 zs g off n cp ow).ex = .normal := by kernel_rfl
theorem W44_fm {zs : List Int} {g off n : Nat} {cp : Option Nat} {ow : Bool} : (W44 zs g off n cp ow).fm = [(0, .slice 1 0 g off n cp)] := by kernel_rfl
theorem W44_tab {zs : List Int} {g off n : Nat} {cp : Option Nat} {ow : Bool} : (W44 zs g off n cp ow).tab = [some ⟨.ints .u8 zs, g, ow, 5⟩] := by kernel_rfl
noncomputable def Y44 (zs : List Int) (g off n : Nat) (cp : Option Nat) (ow : Bool) : Out := trimG 1 [0,1] [2] (run (eC0 []) 8 ⟨1, []⟩ 400 r44c [(0, .slice 1 0 g off n cp)] [some ⟨.ints .u8 zs, g, ow, 5⟩] [])
theorem Y44_ok {zs : List Int} {g off n : Nat} {cp : Option Nat} {ow : Bool} (h : allP [.leN n 140737488355328, .eqN g g, .leN (off + n) zs.length]) : Ok (Y44 zs g off n cp ow) := Ok.dem (fl := [true, true, true, false, false, false, true]) (by kernel_rfl) (by kernel_rfl) (by kernel_rfl) h
theorem Y44_ex {zs : List Int} {g off n : Nat} {cp : Option Nat} {ow : Bool} : (Y44 zs g off n cp ow).ex = .ret := by kernel_rfl
theorem Y44_fm {zs : List Int} {g off n : Nat} {cp : Option Nat} {ow : Bool} : (Y44 zs g off n cp ow).fm = [(2, .slice 1 1 1 0 n none)] := by kernel_rfl
theorem Y44_tab {zs : List Int} {g off n : Nat} {cp : Option Nat} {ow : Bool} : (Y44 zs g off n cp ow).tab = [some ⟨.ints .u8 zs, g, ow, 5⟩, some ⟨.ints .u8 ([] ++ List.take n (dropO off zs)), 1, true, 5⟩] := by kernel_rfl
theorem eq44 : ∃ oy : Oper, r44ops.toList = r44ops.toList.take 1 ++ [oy] ∧ oy.op = .binOp .eql 23 (.tmp 3) (.const (.slice none 0 0)) 23 ∧ oy.guard = none ∧ oy.dst = some 4 := ⟨r44ops.toList.getD 1 default, by kernel_rfl, by kernel_rfl, by kernel_rfl, by kernel_rfl⟩
noncomputable def sm44c (args : List AVal) (T : Tab) (zs : List Int) (g : Nat) (off : Nat) (n : Nat) (cp : Option Nat) (ow : Bool) : Res := ⟨[.tab T [some ⟨.ints .u8 zs, g, ow, 5⟩], .val (.tuple args) (.tuple [.slice 1 0 g off n cp]), .leN (off + n) zs.length, .leN n 140737488355000], .slice 1 1 1 0 n none, [some ⟨.ints .u8 zs, g, ow, 5⟩, some ⟨.ints .u8 (subLaw zs off n), 1, true, 5⟩]⟩
theorem sm44c_ok {args : List AVal} {T : Tab} {zs : List Int} {g : Nat} {off : Nat} {n : Nat} {cp : Option Nat} {ow : Bool} (h : allP (sm44c args T zs g off n cp ow).cs) : Small prog (fun _ => none) 44 args T (sm44c args T zs g off n cp ow).val (sm44c args T zs g off n cp ow).tab := by
  obtain ⟨hT, hv, h1, h2, _⟩ := h
  simp only [Con.h] at hT hv h1 h2
  injection hv with hv
  subst hT hv
  by_cases hn : 1 ≤ n
  · refine small_ofG (R := R44 zs g off n cp ow) (keep := [0,1]) eC0_ok hmC (f := 44) (fn := f44) (by kernel_rfl) (by kernel_rfl) FnOrc.nil rfl (R44_ok ?_) R44_val (by rw [R44_tab]; simp only [dropO_eq, List.nil_append]; rfl)
    simp only [allP, Con.h, hn, h1, eq_self, true_and, and_true]
    omega
  · obtain rfl : n = 0 := by omega
    have hs0 : subLaw zs off 0 = [] := by unfold subLaw; exact List.take_zero
    obtain ⟨oy, q1, q2, q3, q4⟩ := eq44
    refine small_of_awp eC0_ok (f := 44) (fn := f44) (c := bodyOf f44) (by kernel_rfl) (by kernel_rfl) (by kernel_rfl) ?_
    rw [split44]
    show AWp (eC0 []) 8 1 _ [(0, .slice 1 0 g off 0 cp)] _ _
    refine AWp.seq (AWp.mono (To.of (o := P44 zs g off 0 cp ow) eC0_ok hmC (Nat.le_refl 1) OrcOk.nil rfl (P44_ok trivial) P44_ex P44_fm P44_tab) fun ex fm T hP => ?_)
    obtain ⟨rfl, rfl, rfl⟩ := hP
    refine AWp.seq (AWp.seq (AWp.eqNil eC0_ok q1 (ds1 := []) (o1 := Q44 zs g off 0 cp ow) rfl (Q44_ok trivial) q2 q3 q4 (by decide) (e := 5) (by kernel_rfl) (sz := 1) (p := 0) (g := g) (off := off) (len := 0) (cap := cp) (o := ⟨.ints .u8 zs, g, ow, 5⟩) (by rw [Q44_fm]; rfl) (by kernel_rfl) (by rw [Q44_tab]; rfl) rfl (fun b => ?_)))
    rw [Q44_fm, Q44_tab]
    cases b with
    | true =>
      refine AWp.mono (To.outNil (fm2 := [(2, .slice 1 1 1 0 0 none)]) .u8 5 1 (AWp.fmSub (f := [(0, .slice 1 0 g off 0 cp), (4, .bool true)]) ⟨rfl, rfl, trivial⟩ (To.of (o := U44 zs g off 0 cp ow) eC0_ok hmC (Nat.le_refl 1) OrcOk.nil rfl (U44_ok trivial) U44_ex U44_fm U44_tab)) (fun t v hv => ?_)) fun ex fm T hP => ?_
      · simp only [look] at hv
        split at hv
        · rename_i e
          have := Nat.eq_of_beq_eq_true e
          subst this
          injection hv with hv; subst hv
          exact .inr ⟨rfl, rfl⟩
        · cases hv
      · obtain ⟨rfl, rfl, rfl⟩ := hP
        refine ⟨.inr rfl, ?_, _, _, rfl, trivial, rfl⟩
        show _ = [_, some (⟨.ints .u8 (subLaw zs off 0), 1, true, 5⟩ : AObj)]
        rw [hs0]; rfl
    | false =>
      refine AWp.mono (AWp.fmSub (f := [(0, .slice 1 0 g off 0 cp), (4, .bool false)]) ⟨rfl, rfl, trivial⟩ (To.of (o := W44 zs g off 0 cp ow) eC0_ok hmC (Nat.le_refl 1) OrcOk.nil rfl (W44_ok trivial) W44_ex W44_fm W44_tab)) fun ex fm T hP => ?_
      obtain ⟨rfl, rfl, rfl⟩ := hP
      refine AWp.mono (To.ofG (o := Y44 zs g off 0 cp ow) eC0_ok hmC (Nat.le_refl 1) OrcOk.nil rfl (Y44_ok (by simp only [allP, Con.h, h1, eq_self, true_and, and_true]; omega)) Y44_ex Y44_fm Y44_tab) fun ex fm T hP => ?_
      obtain ⟨rfl, rfl, rfl⟩ := hP
      refine ⟨.inr rfl, ?_, _, _, rfl, trivial, rfl⟩
      show [_, some (⟨.ints .u8 ([] ++ List.take 0 (dropO off zs)), 1, true, 5⟩ : AObj)] = [_, some (⟨.ints .u8 (subLaw zs off 0), 1, true, 5⟩ : AObj)]
      rw [hs0, List.take_zero]; rfl
noncomputable def sm44 : Summary := fun args T => sm44c args T (xsAt T 0) (gAt T 0) (offOf (vAt args 0)) (lenOf (vAt args 0)) (capOf (vAt args 0)) (owAt T 0)
theorem sm44_ok : SmOk prog (fun _ => none) 44 sm44 := fun args T h => sm44c_ok h
noncomputable def S44r : Summary := callR sm44 []
theorem S44r_ok : SumOk prog (fun _ => none) 44 S44r := callR_ok sm44_ok []
end Go.Abs

set_option linter.unusedVariables false
set_option linter.unusedSimpArgs false
set_option maxRecDepth 100000
set_option maxHeartbeats 4000000
namespace Go.Abs
open Go.Proofs Go.Proofs.Try
noncomputable def eR4 : Env := eC0 [(35, S35)]
theorem eR4_ok : EnvOk eR4 := envOf_ok tysC_ok (SumsOk.cons (fn := f35) S35_ok (by kernel_rfl) (by kernel_rfl) (by kernel_rfl) trivial)
noncomputable def R36e (B : List Int) (g gR off n : Nat) (e : Int) : Res := runF eR4 f36 [] 400 [.var 0 gR] [some ⟨.agg [.slice 1 1 g off n none, .int .i64 e, .bool true], gR, true, 60⟩, some ⟨.ints .u8 B, g, false, 5⟩] [some true]
theorem R36e_ok {B : List Int} {g gR off n : Nat} {e : Int} (h : allP [.eqN gR gR, .eqN g g, .eqN gR gR, .eqN gR gR, .eqN gR gR, .eqN gR gR, .eqN gR gR, .eqN gR gR, .eqN gR gR, .p ((e != 0) = true)]) : OkR (R36e B g gR off n e) := OkR.dem (fl := bitsF 12 1088) (by kernel_rfl) (by kernel_rfl) (by kernel_rfl) h
theorem R36e_val {B : List Int} {g gR off n : Nat} {e : Int} : (R36e B g gR off n e).val = .int .i64 e := by kernel_rfl
theorem R36e_tab {B : List Int} {g gR off n : Nat} {e : Int} : (R36e B g gR off n e).tab = [some ⟨.agg [.slice 1 1 g off n none, .int .i64 e, .bool true], gR, true, 60⟩, some ⟨.ints .u8 B, g, false, 5⟩] := by kernel_rfl
noncomputable def R36m (B : List Int) (g gR off n : Nat) : Res := runF eR4 f36 [] 400 [.var 0 gR] [some ⟨.agg [.slice 1 1 g off n none, .int .i64 0, .bool true], gR, true, 60⟩, some ⟨.ints .u8 B, g, false, 5⟩] [none, some true]
theorem R36m_ok {B : List Int} {g gR off n : Nat} (h : allP [.eqN gR gR, .eqN g g, .eqN gR gR, .eqN gR gR, .eqN gR gR, .eqN gR gR, .eqN gR gR, .eqN gR gR, .eqN gR gR, .eqN gR gR, .eqN gR gR, .eqN gR gR, .eqN g g, .p (decide (0 < (↑n : Int)) = true)]) : OkR (R36m B g gR off n) := OkR.dem (fl := bitsF 17 17472) (by kernel_rfl) (by kernel_rfl) (by kernel_rfl) h
theorem R36m_val {B : List Int} {g gR off n : Nat} : (R36m B g gR off n).val = .int .i64 21 := by kernel_rfl
theorem R36m_tab {B : List Int} {g gR off n : Nat} : (R36m B g gR off n).tab = [some ⟨.agg [.slice 1 1 g off n none, .int .i64 0, .bool true], gR, true, 60⟩, some ⟨.ints .u8 B, g, false, 5⟩] := by kernel_rfl
noncomputable def R36z (B : List Int) (g gR off n : Nat) : Res := runF eR4 f36 [] 400 [.var 0 gR] [some ⟨.agg [.slice 1 1 g off n none, .int .i64 0, .bool true], gR, true, 60⟩, some ⟨.ints .u8 B, g, false, 5⟩] [none, some false]
theorem R36z_ok {B : List Int} {g gR off n : Nat} (h : allP [.eqN gR gR, .eqN g g, .eqN gR gR, .eqN gR gR, .eqN gR gR, .eqN gR gR, .eqN gR gR, .eqN gR gR, .eqN gR gR, .eqN gR gR, .eqN gR gR, .eqN gR gR, .eqN g g, .p (decide (0 < (↑n : Int)) = false)]) : OkR (R36z B g gR off n) := OkR.dem (fl := bitsF 17 17472) (by kernel_rfl) (by kernel_rfl) (by kernel_rfl) h
theorem R36z_val {B : List Int} {g gR off n : Nat} : (R36z B g gR off n).val = .int .i64 0 := by kernel_rfl
theorem R36z_tab {B : List Int} {g gR off n : Nat} : (R36z B g gR off n).tab = [some ⟨.agg [.slice 1 1 g off n none, .int .i64 0, .bool true], gR, true, 60⟩, some ⟨.ints .u8 B, g, false, 5⟩] := by kernel_rfl
end Go.Abs

set_option linter.unusedVariables false
set_option linter.unusedSimpArgs false
set_option maxRecDepth 100000
set_option maxHeartbeats 4000000
namespace Go.Abs
open Go.Proofs Go.Proofs.Try
def reLaw (B : List Int) (off : Nat) (e : Int) : Int := if e ≠ 0 then e else if 0 < B.length - off then 21 else 0
noncomputable def sm36c (args : List AVal) (T : Tab) (B : List Int) (g : Nat) (gR : Nat) (off : Nat) (n : Nat) (e : Int) : Res := ⟨[.tab T [some ⟨.agg [.slice 1 1 g off n none, .int .i64 e, .bool true], gR, true, 60⟩, some ⟨.ints .u8 B, g, false, 5⟩], .val (.tuple args) (.tuple [.var 0 gR]), .eqN n (B.length - off)], .int .i64 (reLaw B off e), [some ⟨.agg [.slice 1 1 g off n none, .int .i64 e, .bool true], gR, true, 60⟩, some ⟨.ints .u8 B, g, false, 5⟩]⟩
theorem sm36c_ok {args : List AVal} {T : Tab} {B : List Int} {g : Nat} {gR : Nat} {off : Nat} {n : Nat} {e : Int} (h : allP (sm36c args T B g gR off n e).cs) : Small prog (fun _ => none) 36 args T (sm36c args T B g gR off n e).val (sm36c args T B g gR off n e).tab := by
  obtain ⟨hT, hv, h1, _⟩ := h
  simp only [Con.h] at hT hv h1
  injection hv with hv
  subst hT hv
  show Small prog (fun _ => none) 36 [.var 0 gR] [some ⟨.agg [.slice 1 1 g off n none, .int .i64 e, .bool true], gR, true, 60⟩, some ⟨.ints .u8 B, g, false, 5⟩] (.int .i64 (reLaw B off e)) [some ⟨.agg [.slice 1 1 g off n none, .int .i64 e, .bool true], gR, true, 60⟩, some ⟨.ints .u8 B, g, false, 5⟩]
  subst h1
  by_cases he : e = 0
  rotate_left
  · have hne : (e != 0) = true := bne_iff_ne.2 he
    rw [show reLaw B off e = e from if_pos he]
    refine small_of (R := R36e B g gR off (B.length - off) e) eR4_ok hmC (f := 36) (fn := f36) (by kernel_rfl) (by kernel_rfl) FnOrc.nil rfl (R36e_ok ?_) R36e_val R36e_tab
    simp only [allP, Con.h, hne, not_false_eq_true, eq_self, true_and, and_true]
  subst he
  by_cases hl : 0 < B.length - off
  · rw [show reLaw B off 0 = 21 by unfold reLaw; rw [if_neg (by decide), if_pos hl]]
    refine small_of (R := R36m B g gR off (B.length - off)) eR4_ok hmC (f := 36) (fn := f36) (by kernel_rfl) (by kernel_rfl) FnOrc.nil rfl (R36m_ok ?_) R36m_val R36m_tab
    simp only [allP, Con.h, decide_eq_true_eq, decide_eq_false_iff_not, not_false_eq_true, eq_self, true_and, and_true]
    omega
  · rw [show reLaw B off 0 = 0 by unfold reLaw; rw [if_neg (by decide), if_neg hl]]
    refine small_of (R := R36z B g gR off (B.length - off)) eR4_ok hmC (f := 36) (fn := f36) (by kernel_rfl) (by kernel_rfl) FnOrc.nil rfl (R36z_ok ?_) R36z_val R36z_tab
    simp only [allP, Con.h, decide_eq_true_eq, decide_eq_false_iff_not, not_false_eq_true, eq_self, true_and, and_true]
    omega
noncomputable def sm36 : Summary := fun args T => sm36c args T (xsAt T 1) (gAt T 1) (gAt T 0) (offOf (cAt T 0 0)) (lenOf (cAt T 0 0)) (iOf (cAt T 0 1))
theorem sm36_ok : SmOk prog (fun _ => none) 36 sm36 := fun args T h => sm36c_ok h
noncomputable def S36r : Summary := callR sm36 [true]
theorem S36r_ok : SumOk prog (fun _ => none) 36 S36r := callR_ok sm36_ok [true]
end Go.Abs

set_option linter.unusedVariables false
set_option linter.unusedSimpArgs false
set_option maxRecDepth 100000
set_option maxHeartbeats 4000000
namespace Go.Abs
open Go.Proofs Go.Proofs.Try
noncomputable def eR6 : Env := eC0 [(44, S44r)]
theorem eR6_ok : EnvOk eR6 := envOf_ok tysC_ok (SumsOk.cons (fn := f44) S44r_ok (by kernel_rfl) (by kernel_rfl) (by kernel_rfl) trivial)
noncomputable def R23 (zs : List Int) (g off n : Nat) (cp : Option Nat) (ow : Bool) : Res := resG 1 [0,2,1] (runF eR6 f23 [] 400 [.slice 1 0 g off n cp] [some ⟨.ints .u8 zs, g, ow, 5⟩] [])
theorem R23_ok {zs : List Int} {g off n : Nat} {cp : Option Nat} {ow : Bool} (h : allP [.eqN g g, .leN (off + n) zs.length, .leN n 140737488355000]) : OkR (R23 zs g off n cp ow) := OkR.dem (fl := [false, false, false, false, false, true, true, true, true]) (by kernel_rfl) (by kernel_rfl) (by kernel_rfl) h
theorem R23_val {zs : List Int} {g off n : Nat} {cp : Option Nat} {ow : Bool} : (R23 zs g off n cp ow).val = .var 2 0 := by kernel_rfl
theorem R23_tab {zs : List Int} {g off n : Nat} {cp : Option Nat} {ow : Bool} : (R23 zs g off n cp ow).tab = [some ⟨.ints .u8 zs, g, ow, 5⟩, some ⟨.ints .u8 (subLaw zs off n), 1, true, 5⟩, some ⟨.agg [.slice 1 1 1 0 n none, .int .i64 0, .bool true], 0, true, 60⟩] := by kernel_rfl
end Go.Abs

set_option linter.unusedVariables false
set_option linter.unusedSimpArgs false
set_option maxRecDepth 100000
set_option maxHeartbeats 4000000
namespace Go.Abs
open Go.Proofs Go.Proofs.Try
noncomputable def sm23c (args : List AVal) (T : Tab) (zs : List Int) (g : Nat) (off : Nat) (n : Nat) (cp : Option Nat) (ow : Bool) : Res := ⟨[.tab T [some ⟨.ints .u8 zs, g, ow, 5⟩], .val (.tuple args) (.tuple [.slice 1 0 g off n cp]), .leN (off + n) zs.length, .leN n 140737488355000], .var 2 0, [some ⟨.ints .u8 zs, g, ow, 5⟩, some ⟨.ints .u8 (subLaw zs off n), 1, true, 5⟩, some ⟨.agg [.slice 1 1 1 0 n none, .int .i64 0, .bool true], 0, true, 60⟩]⟩
theorem sm23c_ok {args : List AVal} {T : Tab} {zs : List Int} {g : Nat} {off : Nat} {n : Nat} {cp : Option Nat} {ow : Bool} (h : allP (sm23c args T zs g off n cp ow).cs) : Small prog (fun _ => none) 23 args T (sm23c args T zs g off n cp ow).val (sm23c args T zs g off n cp ow).tab := by
  obtain ⟨hT, hv, h1, h2, _⟩ := h
  simp only [Con.h] at hT hv h1 h2
  injection hv with hv
  subst hT hv
  show Small prog (fun _ => none) 23 [.slice 1 0 g off n cp] [some ⟨.ints .u8 zs, g, ow, 5⟩] (.var 2 0) [some ⟨.ints .u8 zs, g, ow, 5⟩, some ⟨.ints .u8 (subLaw zs off n), 1, true, 5⟩, some ⟨.agg [.slice 1 1 1 0 n none, .int .i64 0, .bool true], 0, true, 60⟩]
  refine small_ofG (R := R23 zs g off n cp ow) (keep := [0,2,1]) eR6_ok hmC (f := 23) (fn := f23) (by kernel_rfl) (by kernel_rfl) FnOrc.nil rfl (R23_ok ?_) R23_val R23_tab
  simp only [allP, Con.h, h1, h2, not_false_eq_true, eq_self, true_and, and_true]
noncomputable def sm23 : Summary := fun args T => sm23c args T (xsAt T 0) (gAt T 0) (offOf (vAt args 0)) (lenOf (vAt args 0)) (capOf (vAt args 0)) (owAt T 0)
theorem sm23_ok : SmOk prog (fun _ => none) 23 sm23 := fun args T h => sm23c_ok h
noncomputable def S23r : Summary := callR sm23 []
theorem S23r_ok : SumOk prog (fun _ => none) 23 S23r := callR_ok sm23_ok []
end Go.Abs

set_option linter.unusedVariables false
set_option linter.unusedSimpArgs false
set_option maxRecDepth 100000
set_option maxHeartbeats 4000000
namespace Go.Abs
open Go.Proofs Go.Proofs.Try
end Go.Abs

set_option linter.unusedVariables false
set_option linter.unusedSimpArgs false
set_option maxRecDepth 100000
set_option maxHeartbeats 4000000
namespace Go.Abs
open Go.Proofs Go.Proofs.Try
end Go.Abs

set_option linter.unusedVariables false
set_option linter.unusedSimpArgs false
set_option maxRecDepth 100000
set_option maxHeartbeats 4000000
namespace Go.Abs
open Go.Proofs Go.Proofs.Try
end Go.Abs

set_option linter.unusedVariables false
set_option linter.unusedSimpArgs false
set_option maxRecDepth 100000
set_option maxHeartbeats 4000000
namespace Go.Abs
open Go.Proofs Go.Proofs.Try
end Go.Abs

set_option linter.unusedVariables false
set_option linter.unusedSimpArgs false
set_option maxRecDepth 100000
set_option maxHeartbeats 4000000
namespace Go.Abs
open Go.Proofs Go.Proofs.Try
end Go.Abs

set_option linter.unusedVariables false
set_option linter.unusedSimpArgs false
set_option maxRecDepth 100000
set_option maxHeartbeats 4000000
namespace Go.Abs
open Go.Proofs Go.Proofs.Try
end Go.Abs

set_option linter.unusedVariables false
set_option linter.unusedSimpArgs false
set_option maxRecDepth 100000
set_option maxHeartbeats 4000000
namespace Go.Abs
open Go.Proofs Go.Proofs.Try
end Go.Abs

set_option linter.unusedVariables false
set_option linter.unusedSimpArgs false
set_option maxRecDepth 100000
set_option maxHeartbeats 4000000
namespace Go.Abs
open Go.Proofs Go.Proofs.Try
end Go.Abs

set_option linter.unusedVariables false
set_option linter.unusedSimpArgs false
set_option maxRecDepth 100000
set_option maxHeartbeats 4000000
namespace Go.Abs
open Go.Proofs Go.Proofs.Try
/-! ### CodecReads: the law -/
theorem AWp.cutTG {E : Env} (hE : EnvOk E) (hm : E.P.follows .mixedOrders = true) {n k m : Nat} {f : Nat} {post : AExit → Fm → Tab → Prop} {c : Code} (j : Nat) {fm : Fm} {T : Tab} {ds : List (Option Bool)} {slots : List Nat} {o : Out} (ho : Abs.trim k m slots (runs E n ⟨k, []⟩ f (frontC j c) fm T ds) = o) (hc : Ok o) (hx : o.ex = .normal) (h : AWp E n k (backC j c) o.fm o.tab post) : AWp E n k c fm T post := by
  generalize hr : runs E n ⟨k, []⟩ f (frontC j c) fm T ds = r at ho
  obtain ⟨cs, ex, fm1, T1, ds1⟩ := r
  unfold Abs.trim at ho
  simp only at ho
  split at ho
  · rename_i g hp hb
    subst ho
    exact AWp.cut hE hm j hr ⟨hc.h⟩ hx (AWp.enter hp hb h)
  · subst ho
    exact absurd hc.h failO_no
end Go.Abs

set_option linter.unusedVariables false
set_option linter.unusedSimpArgs false
set_option maxRecDepth 100000
namespace Go.Abs
open Go.Proofs Go.Proofs.Try
/-! ### CodecNumbers: what was written is read back -/
theorem mid_get {P x S : List Int} {i : Nat} (h : i < x.length) : (P ++ x ++ S).getD (P.length + i) 0 = x.getD i 0 := by
  rw [List.getD_eq_getElem?_getD, List.getD_eq_getElem?_getD, List.append_assoc, List.getElem?_append_right (by omega), show P.length + i - P.length = i by omega, List.getElem?_append_left h]
theorem iand_mod {a : Int} (k : Nat) (ha : 0 ≤ a) : iand a ((2 : Int) ^ k - 1) = a % 2 ^ k := by
  obtain ⟨n, rfl⟩ := Int.eq_ofNat_of_zero_le ha
  have e : ((2 : Int) ^ k - 1) = ((2 ^ k - 1 : Nat) : Int) := by
    have : 1 ≤ 2 ^ k := Nat.one_le_two_pow
    rw [Int.ofNat_sub this]
    simp
  unfold iand
  rw [e, Int.toNat_natCast, Int.toNat_natCast, Nat.and_two_pow_sub_one_eq_mod]
  simp
theorem be_back1 {P S : List Int} {n : Int} (h0 : 0 ≤ n) (h1 : n < 256) : beN 1 (P ++ beLaw n 1 ++ S) P.length = n := by
  have g0 : (P ++ beLaw n 1 ++ S).getD (P.length + 0) 0 = n % 256 := by rw [mid_get (by show 0 < 1; decide)]; show n / 1 % 256 = _; omega
  unfold beN beN
  rw [g0]
  omega
theorem be_back2 {P S : List Int} {n : Int} (h0 : 0 ≤ n) (h1 : n < 65536) : beN 2 (P ++ beLaw n 2 ++ S) P.length = n := by
  have g0 : (P ++ beLaw n 2 ++ S).getD (P.length + 0) 0 = n / 256 % 256 := by rw [mid_get (by show 0 < 2; decide)]; rfl
  have g1 : (P ++ beLaw n 2 ++ S).getD (P.length + 1) 0 = n / 1 % 256 := by rw [mid_get (by show 1 < 2; decide)]; rfl
  unfold beN beN beN
  rw [g0, g1]
  omega
theorem be_back4 {P S : List Int} {n : Int} (h0 : 0 ≤ n) (h1 : n < 4294967296) : beN 4 (P ++ beLaw n 4 ++ S) P.length = n := by
  have g0 : (P ++ beLaw n 4 ++ S).getD (P.length + 0) 0 = n / 16777216 % 256 := by rw [mid_get (by show 0 < 4; decide)]; rfl
  have g1 : (P ++ beLaw n 4 ++ S).getD (P.length + 1) 0 = n / 65536 % 256 := by rw [mid_get (by show 1 < 4; decide)]; rfl
  have g2 : (P ++ beLaw n 4 ++ S).getD (P.length + 2) 0 = n / 256 % 256 := by rw [mid_get (by show 2 < 4; decide)]; rfl
  have g3 : (P ++ beLaw n 4 ++ S).getD (P.length + 3) 0 = n / 1 % 256 := by rw [mid_get (by show 3 < 4; decide)]; rfl
  unfold beN beN beN beN beN
  rw [g0, g1, g2, g3]
  omega
theorem be_back8 {P S : List Int} {n : Int} (h0 : 0 ≤ n) (h1 : n < 4611686018427387904) : beN 8 (P ++ beLaw n 8 ++ S) P.length = n := by
  have g0 : (P ++ beLaw n 8 ++ S).getD (P.length + 0) 0 = n / 72057594037927936 % 256 := by rw [mid_get (by show 0 < 8; decide)]; rfl
  have g1 : (P ++ beLaw n 8 ++ S).getD (P.length + 1) 0 = n / 281474976710656 % 256 := by rw [mid_get (by show 1 < 8; decide)]; rfl
  have g2 : (P ++ beLaw n 8 ++ S).getD (P.length + 2) 0 = n / 1099511627776 % 256 := by rw [mid_get (by show 2 < 8; decide)]; rfl
  have g3 : (P ++ beLaw n 8 ++ S).getD (P.length + 3) 0 = n / 4294967296 % 256 := by rw [mid_get (by show 3 < 8; decide)]; rfl
  have g4 : (P ++ beLaw n 8 ++ S).getD (P.length + 4) 0 = n / 16777216 % 256 := by rw [mid_get (by show 4 < 8; decide)]; rfl
  have g5 : (P ++ beLaw n 8 ++ S).getD (P.length + 5) 0 = n / 65536 % 256 := by rw [mid_get (by show 5 < 8; decide)]; rfl
  have g6 : (P ++ beLaw n 8 ++ S).getD (P.length + 6) 0 = n / 256 % 256 := by rw [mid_get (by show 6 < 8; decide)]; rfl
  have g7 : (P ++ beLaw n 8 ++ S).getD (P.length + 7) 0 = n / 1 % 256 := by rw [mid_get (by show 7 < 8; decide)]; rfl
  unfold beN beN beN beN beN beN beN beN beN
  rw [g0, g1, g2, g3, g4, g5, g6, g7]
  omega
theorem rn_back {P S : List Int} {n size : Int} (hs : sizedLaw size) (h0 : 0 ≤ n) (h1 : n < mostLaw size) : rnP (P ++ numLaw n size ++ S) P.length 0 size = (n, P.length + (numLaw n size).length, 0) := by
  rw [(num_in hs ⟨h0, h1⟩).1]
  have hl : (beLaw n size.toNat).length = size.toNat := by unfold beLaw; simp
  have hlow : LowLaw (P ++ beLaw n size.toNat ++ S) P.length size := fun h8 => by
    subst h8
    have g0 : (P ++ beLaw n 8 ++ S).getD (P.length + 0) 0 = n / 72057594037927936 % 256 := by rw [mid_get (by show 0 < 8; decide)]; rfl
    have h1' : n < 4611686018427387904 := h1
    show (P ++ beLaw n 8 ++ S).getD (P.length + 0) 0 < 64
    rw [g0]
    omega
  have hlen : ¬ (((P ++ beLaw n size.toNat ++ S).length - P.length : Nat) : Int) < size := by
    simp only [List.length_append, hl]
    omega
  rw [rn_g hs hlen hlow, hl]
  have hv : numAtLaw size.toNat (P ++ beLaw n size.toNat ++ S) P.length = n := by
    rcases hs with rfl | rfl | rfl | rfl
    · exact be_back1 h0 h1
    · exact be_back2 h0 h1
    · exact be_back4 h0 h1
    · exact be_back8 h0 h1
  rw [hv]
theorem rl_back {P S : List Int} {n : Int} (h0 : 0 ≤ n) (h1 : n < 1073741824) : rlP (P ++ lenLaw n ++ S) P.length 0 = (n, P.length + (lenLaw n).length, 0) := by
  by_cases ha : n < 64
  · rw [(len_a h0 ha).1]
    have g0 : (P ++ [n / 1 % 256] ++ S).getD (P.length + 0) 0 = n / 1 % 256 := mid_get (by show 0 < 1; decide)
    rw [Nat.add_zero] at g0
    have hl : (P ++ [n / 1 % 256] ++ S).length = P.length + 1 + S.length := by simp; omega
    have hv : iand (numAtLaw 1 (P ++ [n / 1 % 256] ++ S) P.length) 63 = n := by
      have e : numAtLaw 1 (P ++ [n / 1 % 256] ++ S) P.length = n := by
        show beN 1 _ _ = n
        unfold beN beN
        rw [Nat.add_zero, g0]
        omega
      rw [e]
      have := iand_mod 6 h0
      rw [show ((2 : Int) ^ 6 - 1) = 63 by decide, show ((2 : Int) ^ 6) = 64 by decide] at this
      rw [this]
      omega
    rw [rl_0 (by rw [hl]; omega) (by rw [g0]; omega), rlT_g (by rw [hl]; omega) (by rw [hv]; omega), hv]
    rfl
  by_cases hb : n < 16384
  · rw [(len_b (by omega) hb).1]
    have g0 : (P ++ [(n + 16384) / 256 % 256, (n + 16384) / 1 % 256] ++ S).getD (P.length + 0) 0 = (n + 16384) / 256 % 256 := mid_get (by show 0 < 2; decide)
    have g1 : (P ++ [(n + 16384) / 256 % 256, (n + 16384) / 1 % 256] ++ S).getD (P.length + 1) 0 = (n + 16384) / 1 % 256 := mid_get (by show 1 < 2; decide)
    rw [Nat.add_zero] at g0
    have hl : (P ++ [(n + 16384) / 256 % 256, (n + 16384) / 1 % 256] ++ S).length = P.length + 2 + S.length := by simp; omega
    have hv : iand (numAtLaw 2 (P ++ [(n + 16384) / 256 % 256, (n + 16384) / 1 % 256] ++ S) P.length) 16383 = n := by
      have e : numAtLaw 2 (P ++ [(n + 16384) / 256 % 256, (n + 16384) / 1 % 256] ++ S) P.length = n + 16384 := by
        show beN 2 _ _ = n + 16384
        unfold beN beN beN
        rw [Nat.add_zero, g0, g1]
        omega
      rw [e]
      have := iand_mod (a := n + 16384) 14 (by omega)
      rw [show ((2 : Int) ^ 14 - 1) = 16383 by decide, show ((2 : Int) ^ 14) = 16384 by decide] at this
      rw [this]
      omega
    rw [rl_1 (by rw [hl]; omega) (by rw [g0]; omega), rlT_g (by rw [hl]; omega) (by rw [hv]; omega), hv]
    rfl
  · rw [(len_c (by omega) h1).1]
    have g0 : (P ++ [(n + 2147483648) / 16777216 % 256, (n + 2147483648) / 65536 % 256, (n + 2147483648) / 256 % 256, (n + 2147483648) / 1 % 256] ++ S).getD (P.length + 0) 0 = (n + 2147483648) / 16777216 % 256 := mid_get (by show 0 < 4; decide)
    have g1 : (P ++ [(n + 2147483648) / 16777216 % 256, (n + 2147483648) / 65536 % 256, (n + 2147483648) / 256 % 256, (n + 2147483648) / 1 % 256] ++ S).getD (P.length + 1) 0 = (n + 2147483648) / 65536 % 256 := mid_get (by show 1 < 4; decide)
    have g2 : (P ++ [(n + 2147483648) / 16777216 % 256, (n + 2147483648) / 65536 % 256, (n + 2147483648) / 256 % 256, (n + 2147483648) / 1 % 256] ++ S).getD (P.length + 2) 0 = (n + 2147483648) / 256 % 256 := mid_get (by show 2 < 4; decide)
    have g3 : (P ++ [(n + 2147483648) / 16777216 % 256, (n + 2147483648) / 65536 % 256, (n + 2147483648) / 256 % 256, (n + 2147483648) / 1 % 256] ++ S).getD (P.length + 3) 0 = (n + 2147483648) / 1 % 256 := mid_get (by show 3 < 4; decide)
    rw [Nat.add_zero] at g0
    have hl : (P ++ [(n + 2147483648) / 16777216 % 256, (n + 2147483648) / 65536 % 256, (n + 2147483648) / 256 % 256, (n + 2147483648) / 1 % 256] ++ S).length = P.length + 4 + S.length := by simp; omega
    have hv : iand (numAtLaw 4 (P ++ [(n + 2147483648) / 16777216 % 256, (n + 2147483648) / 65536 % 256, (n + 2147483648) / 256 % 256, (n + 2147483648) / 1 % 256] ++ S) P.length) 1073741823 = n := by
      have e : numAtLaw 4 (P ++ [(n + 2147483648) / 16777216 % 256, (n + 2147483648) / 65536 % 256, (n + 2147483648) / 256 % 256, (n + 2147483648) / 1 % 256] ++ S) P.length = n + 2147483648 := by
        show beN 4 _ _ = n + 2147483648
        unfold beN beN beN beN beN
        rw [Nat.add_zero, g0, g1, g2, g3]
        omega
      rw [e]
      have := iand_mod (a := n + 2147483648) 30 (by omega)
      rw [show ((2 : Int) ^ 30 - 1) = 1073741823 by decide, show ((2 : Int) ^ 30) = 1073741824 by decide] at this
      rw [this]
      omega
    rw [rl_2 (by rw [hl]; omega) (by rw [g0]; omega), rlT_g (by rw [hl]; omega) (by rw [hv]; omega), hv]
    rfl
end Go.Abs

set_option linter.unusedVariables false
set_option linter.unusedSimpArgs false
set_option maxRecDepth 100000
set_option maxHeartbeats 4000000
namespace Go.Abs
open Go.Proofs Go.Proofs.Try
/-! ### CodecNumbers: rounds -/
noncomputable def eY : Env := eC0 [(12, S12), (13, S13), (16, S16), (18, S18c), (23, S23r), (25, S25r), (27, S27r), (36, S36r)]
theorem eY_ok : EnvOk eY := envOf_ok tysC_ok (SumsOk.cons (fn := f12) S12_ok (by kernel_rfl) (by kernel_rfl) (by kernel_rfl) (SumsOk.cons (fn := f13) S13_ok (by kernel_rfl) (by kernel_rfl) (by kernel_rfl) (SumsOk.cons (fn := f16) S16_ok (by kernel_rfl) (by kernel_rfl) (by kernel_rfl) (SumsOk.cons (fn := f18) S18c_ok (by kernel_rfl) (by kernel_rfl) (by kernel_rfl) (SumsOk.cons (fn := f23) S23r_ok (by kernel_rfl) (by kernel_rfl) (by kernel_rfl) (SumsOk.cons (fn := f25) S25r_ok (by kernel_rfl) (by kernel_rfl) (by kernel_rfl) (SumsOk.cons (fn := f27) S27r_ok (by kernel_rfl) (by kernel_rfl) (by kernel_rfl) (SumsOk.cons (fn := f36) S36r_ok (by kernel_rfl) (by kernel_rfl) (by kernel_rfl) trivial))))))))
noncomputable def K9a (ops bL wL sL : List Int) (L C nb c : Nat) (i : Nat) : Out := trim 4 4 [0,3,4,5,6] (run eY 106 ⟨4, []⟩ 400 (roundOf 0 f9) [(0, .slice 2 0 0 0 L (some C)), (3, .slice 1 1 c 0 nb none), (4, .slice 1 2 c 0 c none), (5, .slice 1 3 c 0 c none), (6, .int .i64 (i : Nat))] [some ⟨.ints .i64 ops, 0, false, 50⟩, some ⟨.ints .u8 bL, c, true, 5⟩, some ⟨.ints .i64 wL, c, true, 3⟩, some ⟨.ints .i64 sL, c, true, 3⟩] [some true, some true, some true, some true])
theorem K9a_ok {ops bL wL sL : List Int} {L C nb c : Nat} {i : Nat} (h : allP [.p (decide ((↑i : Int) < (↑L : Int)) = true), .p (decide ((↑i : Int) < 50) = true), .leI 0 (↑i : Int), .leI ((↑i : Int) + 1) (↑L : Int), .leN (addO (i * 2) 0 + 1) ops.length, .rng (-9223372036854775808) ((ops.getD (addO (i * 2) 0) 0).tmod 5 + 5) 9223372036854775807, .rng 0 (((ops.getD (addO (i * 2) 0) 0).tmod 5 + 5).tmod
 5) 18446744073709551615, .rng 0 (((ops.getD (addO (i * 2) 0) 0).tmod 5 + 5).tmod 5) 64, .rng (-9223372036854775808) (1 * 2 ^ (((ops.getD (addO (i * 2) 0) 0).tmod 5 + 5).tmod 5).toNat) 9223372036854775807, .p (((1 : Int) * 2 ^ (((ops.getD (addO (i * 2) 0) 0).tmod 5 + 5).tmod 5).toNat == 16) = true), .leI 0 (↑i : Int), .leI ((↑i : Int) + 1) (↑L : Int), .leN (addO (i * 2) 1 + 1) ops.length, .p
 ((lenErrLaw (ops.getD (addO (i * 2) 1) 0) == 0) = true), .eqN c c, .leN (0 + nb) bL.length, .leN (addO nb (lenLaw (ops.getD (addO (i * 2) 1) 0)).length) 140737488355328, .leN (0 + (lenLaw (ops.getD (addO (i * 2) 1) 0)).length) (lenLaw (ops.getD (addO (i * 2) 1) 0)).length, .leI 0 (↑i : Int), .leI ((↑i : Int) + 1) (↑L : Int), .leN (addO (i * 2) 1 + 1) ops.length, .eqN c c, .leN (0 + c) wL.length,
 .leN (addO c 1 * 8) 140737488355328, .eqN c c, .leN (0 + c) sL.length, .leN (addO c 1 * 8) 140737488355328, .rng (-9223372036854775808) ((↑i : Int) + 1) 9223372036854775807]) : Ok (K9a ops bL wL sL L C nb c i) := Ok.dem (fl := bitsF 54 8020092090125001) (by kernel_rfl) (by kernel_rfl) (by kernel_rfl) h
theorem K9a_ex {ops bL wL sL : List Int} {L C nb c : Nat} {i : Nat} : (K9a ops bL wL sL L C nb c i).ex = .normal := by kernel_rfl
theorem K9a_fm {ops bL wL sL : List Int} {L C nb c : Nat} {i : Nat} : (K9a ops bL wL sL L C nb c i).fm = [(0, .slice 2 0 0 0 L (some C)), (3, .slice 1 1 (c + 1) 0 (addO nb (lenLaw (ops.getD (addO (i * 2) 1) 0)).length) none), (4, .slice 1 2 (c + 1) 0 (addO c 1) none), (5, .slice 1 3 (c + 1) 0 (addO c 1) none), (6, .int .i64 ((↑i : Int) + 1))] := by kernel_rfl
theorem K9a_tab {ops bL wL sL : List Int} {L C nb c : Nat} {i : Nat} : (K9a ops bL wL sL L C nb c i).tab = [some ⟨.ints .i64 ops, 0, false, 50⟩, some ⟨.ints .u8 (List.take nb bL ++ List.take (lenLaw (ops.getD (addO (i * 2) 1) 0)).length (lenLaw (ops.getD (addO (i * 2) 1) 0))), c + 1, true, 5⟩, some ⟨.ints .i64 (List.take c wL ++ [ops.getD (addO (i * 2) 1) 0]), c + 1, true, 3⟩, some ⟨.ints .i64
 (List.take c sL ++ [1 * 2 ^ (((ops.getD (addO (i * 2) 0) 0).tmod 5 + 5).tmod 5).toNat]), c + 1, true, 3⟩] := by kernel_rfl
noncomputable def K9b (ops bL wL sL : List Int) (L C nb c : Nat) (i : Nat) : Out := trim 4 4 [0,3,4,5,6] (run eY 106 ⟨4, []⟩ 400 (roundOf 0 f9) [(0, .slice 2 0 0 0 L (some C)), (3, .slice 1 1 c 0 nb none), (4, .slice 1 2 c 0 c none), (5, .slice 1 3 c 0 c none), (6, .int .i64 (i : Nat))] [some ⟨.ints .i64 ops, 0, false, 50⟩, some ⟨.ints .u8 bL, c, true, 5⟩, some ⟨.ints .i64 wL, c, true, 3⟩, some ⟨.ints .i64 sL, c, true, 3⟩] [some true, some true, some true, some false])
theorem K9b_ok {ops bL wL sL : List Int} {L C nb c : Nat} {i : Nat} (h : allP [.p (decide ((↑i : Int) < (↑L : Int)) = true), .p (decide ((↑i : Int) < 50) = true), .leI 0 (↑i : Int), .leI ((↑i : Int) + 1) (↑L : Int), .leN (addO (i * 2) 0 + 1) ops.length, .rng (-9223372036854775808) ((ops.getD (addO (i * 2) 0) 0).tmod 5 + 5) 9223372036854775807, .rng 0 (((ops.getD (addO (i * 2) 0) 0).tmod 5 + 5).tmod
 5) 18446744073709551615, .rng 0 (((ops.getD (addO (i * 2) 0) 0).tmod 5 + 5).tmod 5) 64, .rng (-9223372036854775808) (1 * 2 ^ (((ops.getD (addO (i * 2) 0) 0).tmod 5 + 5).tmod 5).toNat) 9223372036854775807, .p (((1 : Int) * 2 ^ (((ops.getD (addO (i * 2) 0) 0).tmod 5 + 5).tmod 5).toNat == 16) = true), .leI 0 (↑i : Int), .leI ((↑i : Int) + 1) (↑L : Int), .leN (addO (i * 2) 1 + 1) ops.length, .p
 ((lenErrLaw (ops.getD (addO (i * 2) 1) 0) == 0) = false), .rng (-9223372036854775808) ((↑i : Int) + 1) 9223372036854775807]) : Ok (K9b ops bL wL sL L C nb c i) := Ok.dem (fl := bitsF 24 1641161) (by kernel_rfl) (by kernel_rfl) (by kernel_rfl) h
theorem K9b_ex {ops bL wL sL : List Int} {L C nb c : Nat} {i : Nat} : (K9b ops bL wL sL L C nb c i).ex = .normal := by kernel_rfl
theorem K9b_fm {ops bL wL sL : List Int} {L C nb c : Nat} {i : Nat} : (K9b ops bL wL sL L C nb c i).fm = [(0, .slice 2 0 0 0 L (some C)), (3, .slice 1 1 c 0 nb none), (4, .slice 1 2 c 0 c none), (5, .slice 1 3 c 0 c none), (6, .int .i64 ((↑i : Int) + 1))] := by kernel_rfl
theorem K9b_tab {ops bL wL sL : List Int} {L C nb c : Nat} {i : Nat} : (K9b ops bL wL sL L C nb c i).tab = [some ⟨.ints .i64 ops, 0, false, 50⟩, some ⟨.ints .u8 bL, c, true, 5⟩, some ⟨.ints .i64 wL, c, true, 3⟩, some ⟨.ints .i64 sL, c, true, 3⟩] := by kernel_rfl
noncomputable def K9c (ops bL wL sL : List Int) (L C nb c : Nat) (i : Nat) : Out := trim 4 4 [0,3,4,5,6] (run eY 106 ⟨4, []⟩ 400 (roundOf 0 f9) [(0, .slice 2 0 0 0 L (some C)), (3, .slice 1 1 c 0 nb none), (4, .slice 1 2 c 0 c none), (5, .slice 1 3 c 0 c none), (6, .int .i64 (i : Nat))] [some ⟨.ints .i64 ops, 0, false, 50⟩, some ⟨.ints .u8 bL, c, true, 5⟩, some ⟨.ints .i64 wL, c, true, 3⟩, some ⟨.ints .i64 sL, c, true, 3⟩] [some true, some true, some false, some true])
theorem K9c_ok {ops bL wL sL : List Int} {L C nb c : Nat} {i : Nat} (h : allP [.p (decide ((↑i : Int) < (↑L : Int)) = true), .p (decide ((↑i : Int) < 50) = true), .leI 0 (↑i : Int), .leI ((↑i : Int) + 1) (↑L : Int), .leN (addO (i * 2) 0 + 1) ops.length, .rng (-9223372036854775808) ((ops.getD (addO (i * 2) 0) 0).tmod 5 + 5) 9223372036854775807, .rng 0 (((ops.getD (addO (i * 2) 0) 0).tmod 5 + 5).tmod
 5) 18446744073709551615, .rng 0 (((ops.getD (addO (i * 2) 0) 0).tmod 5 + 5).tmod 5) 64, .rng (-9223372036854775808) (1 * 2 ^ (((ops.getD (addO (i * 2) 0) 0).tmod 5 + 5).tmod 5).toNat) 9223372036854775807, .p (((1 : Int) * 2 ^ (((ops.getD (addO (i * 2) 0) 0).tmod 5 + 5).tmod 5).toNat == 16) = false), .leI 0 (↑i : Int), .leI ((↑i : Int) + 1) (↑L : Int), .leN (addO (i * 2) 1 + 1) ops.length, .p
 ((numErrLaw (ops.getD (addO (i * 2) 1) 0) (1 * 2 ^ (((ops.getD (addO (i * 2) 0) 0).tmod 5 + 5).tmod 5).toNat) == 0) = true), .eqN c c, .leN (0 + nb) bL.length, .leN (addO nb (numLaw (ops.getD (addO (i * 2) 1) 0) (1 * 2 ^ (((ops.getD (addO (i * 2) 0) 0).tmod 5 + 5).tmod 5).toNat)).length) 140737488355328, .leN (0 + (numLaw (ops.getD (addO (i * 2) 1) 0) (1 * 2 ^ (((ops.getD (addO (i * 2) 0) 0).tmod 5
 + 5).tmod 5).toNat)).length) (numLaw (ops.getD (addO (i * 2) 1) 0) (1 * 2 ^ (((ops.getD (addO (i * 2) 0) 0).tmod 5 + 5).tmod 5).toNat)).length, .leI 0 (↑i : Int), .leI ((↑i : Int) + 1) (↑L : Int), .leN (addO (i * 2) 1 + 1) ops.length, .eqN c c, .leN (0 + c) wL.length, .leN (addO c 1 * 8) 140737488355328, .eqN c c, .leN (0 + c) sL.length, .leN (addO c 1 * 8) 140737488355328, .rng
 (-9223372036854775808) ((↑i : Int) + 1) 9223372036854775807]) : Ok (K9c ops bL wL sL L C nb c i) := Ok.dem (fl := bitsF 54 8020092090125001) (by kernel_rfl) (by kernel_rfl) (by kernel_rfl) h
theorem K9c_ex {ops bL wL sL : List Int} {L C nb c : Nat} {i : Nat} : (K9c ops bL wL sL L C nb c i).ex = .normal := by kernel_rfl
theorem K9c_fm {ops bL wL sL : List Int} {L C nb c : Nat} {i : Nat} : (K9c ops bL wL sL L C nb c i).fm = [(0, .slice 2 0 0 0 L (some C)), (3, .slice 1 1 (c + 1) 0 (addO nb (numLaw (ops.getD (addO (i * 2) 1) 0) (1 * 2 ^ (((ops.getD (addO (i * 2) 0) 0).tmod 5 + 5).tmod 5).toNat)).length) none), (4, .slice 1 2 (c + 1) 0 (addO c 1) none), (5, .slice 1 3 (c + 1) 0 (addO c 1) none), (6, .int .i64 ((↑i :
 Int) + 1))] := by kernel_rfl
theorem K9c_tab {ops bL wL sL : List Int} {L C nb c : Nat} {i : Nat} : (K9c ops bL wL sL L C nb c i).tab = [some ⟨.ints .i64 ops, 0, false, 50⟩, some ⟨.ints .u8 (List.take nb bL ++ List.take (numLaw (ops.getD (addO (i * 2) 1) 0) (1 * 2 ^ (((ops.getD (addO (i * 2) 0) 0).tmod 5 + 5).tmod 5).toNat)).length (numLaw (ops.getD (addO (i * 2) 1) 0) (1 * 2 ^ (((ops.getD (addO (i * 2) 0) 0).tmod 5 + 5).tmod
 5).toNat))), c + 1, true, 5⟩, some ⟨.ints .i64 (List.take c wL ++ [ops.getD (addO (i * 2) 1) 0]), c + 1, true, 3⟩, some ⟨.ints .i64 (List.take c sL ++ [1 * 2 ^ (((ops.getD (addO (i * 2) 0) 0).tmod 5 + 5).tmod 5).toNat]), c + 1, true, 3⟩] := by kernel_rfl
noncomputable def K9d (ops bL wL sL : List Int) (L C nb c : Nat) (i : Nat) : Out := trim 4 4 [0,3,4,5,6] (run eY 106 ⟨4, []⟩ 400 (roundOf 0 f9) [(0, .slice 2 0 0 0 L (some C)), (3, .slice 1 1 c 0 nb none), (4, .slice 1 2 c 0 c none), (5, .slice 1 3 c 0 c none), (6, .int .i64 (i : Nat))] [some ⟨.ints .i64 ops, 0, false, 50⟩, some ⟨.ints .u8 bL, c, true, 5⟩, some ⟨.ints .i64 wL, c, true, 3⟩, some ⟨.ints .i64 sL, c, true, 3⟩] [some true, some true, some false, some false])
theorem K9d_ok {ops bL wL sL : List Int} {L C nb c : Nat} {i : Nat} (h : allP [.p (decide ((↑i : Int) < (↑L : Int)) = true), .p (decide ((↑i : Int) < 50) = true), .leI 0 (↑i : Int), .leI ((↑i : Int) + 1) (↑L : Int), .leN (addO (i * 2) 0 + 1) ops.length, .rng (-9223372036854775808) ((ops.getD (addO (i * 2) 0) 0).tmod 5 + 5) 9223372036854775807, .rng 0 (((ops.getD (addO (i * 2) 0) 0).tmod 5 + 5).tmod
 5) 18446744073709551615, .rng 0 (((ops.getD (addO (i * 2) 0) 0).tmod 5 + 5).tmod 5) 64, .rng (-9223372036854775808) (1 * 2 ^ (((ops.getD (addO (i * 2) 0) 0).tmod 5 + 5).tmod 5).toNat) 9223372036854775807, .p (((1 : Int) * 2 ^ (((ops.getD (addO (i * 2) 0) 0).tmod 5 + 5).tmod 5).toNat == 16) = false), .leI 0 (↑i : Int), .leI ((↑i : Int) + 1) (↑L : Int), .leN (addO (i * 2) 1 + 1) ops.length, .p
 ((numErrLaw (ops.getD (addO (i * 2) 1) 0) (1 * 2 ^ (((ops.getD (addO (i * 2) 0) 0).tmod 5 + 5).tmod 5).toNat) == 0) = false), .rng (-9223372036854775808) ((↑i : Int) + 1) 9223372036854775807]) : Ok (K9d ops bL wL sL L C nb c i) := Ok.dem (fl := bitsF 24 1641161) (by kernel_rfl) (by kernel_rfl) (by kernel_rfl) h
theorem K9d_ex {ops bL wL sL : List Int} {L C nb c : Nat} {i : Nat} : (K9d ops bL wL sL L C nb c i).ex = .normal := by kernel_rfl
theorem K9d_fm {ops bL wL sL : List Int} {L C nb c : Nat} {i : Nat} : (K9d ops bL wL sL L C nb c i).fm = [(0, .slice 2 0 0 0 L (some C)), (3, .slice 1 1 c 0 nb none), (4, .slice 1 2 c 0 c none), (5, .slice 1 3 c 0 c none), (6, .int .i64 ((↑i : Int) + 1))] := by kernel_rfl
theorem K9d_tab {ops bL wL sL : List Int} {L C nb c : Nat} {i : Nat} : (K9d ops bL wL sL L C nb c i).tab = [some ⟨.ints .i64 ops, 0, false, 50⟩, some ⟨.ints .u8 bL, c, true, 5⟩, some ⟨.ints .i64 wL, c, true, 3⟩, some ⟨.ints .i64 sL, c, true, 3⟩] := by kernel_rfl
end Go.Abs

set_option linter.unusedVariables false
set_option linter.unusedSimpArgs false
set_option maxRecDepth 100000
set_option maxHeartbeats 4000000
namespace Go.Abs
open Go.Proofs Go.Proofs.Try
/-! ### CodecNumbers: the first loop -/
noncomputable def E9a (ops bL wL sL : List Int) (L C nb c : Nat) (i : Nat) : Out := trim 4 4 [3,4,5] (run eY 106 ⟨4, []⟩ 400 (roundOf 0 f9) [(0, .slice 2 0 0 0 L (some C)), (3, .slice 1 1 c 0 nb none), (4, .slice 1 2 c 0 c none), (5, .slice 1 3 c 0 c none), (6, .int .i64 (i : Nat))] [some ⟨.ints .i64 ops, 0, false, 50⟩, some ⟨.ints .u8 bL, c, true, 5⟩, some ⟨.ints .i64 wL, c, true, 3⟩, some ⟨.ints .i64 sL, c, true, 3⟩] [some false])
theorem E9a_ok {ops bL wL sL : List Int} {L C nb c : Nat} {i : Nat} (h : allP [.p (decide ((↑i : Int) < (↑L : Int)) = false)]) : Ok (E9a ops bL wL sL L C nb c i) := Ok.dem (fl := [true, false]) (by kernel_rfl) (by kernel_rfl) (by kernel_rfl) h
theorem E9a_ex {ops bL wL sL : List Int} {L C nb c : Nat} {i : Nat} : (E9a ops bL wL sL L C nb c i).ex = .exit 0 := by kernel_rfl
theorem E9a_fm {ops bL wL sL : List Int} {L C nb c : Nat} {i : Nat} : (E9a ops bL wL sL L C nb c i).fm = [(3, .slice 1 1 c 0 nb none), (4, .slice 1 2 c 0 c none), (5, .slice 1 3 c 0 c none)] := by kernel_rfl
theorem E9a_tab {ops bL wL sL : List Int} {L C nb c : Nat} {i : Nat} : (E9a ops bL wL sL L C nb c i).tab = [some ⟨.ints .i64 ops, 0, false, 50⟩, some ⟨.ints .u8 bL, c, true, 5⟩, some ⟨.ints .i64 wL, c, true, 3⟩, some ⟨.ints .i64 sL, c, true, 3⟩] := by kernel_rfl
noncomputable def E9b (ops bL wL sL : List Int) (L C nb c : Nat) (i : Nat) : Out := trim 4 4 [3,4,5] (run eY 106 ⟨4, []⟩ 400 (roundOf 0 f9) [(0, .slice 2 0 0 0 L (some C)), (3, .slice 1 1 c 0 nb none), (4, .slice 1 2 c 0 c none), (5, .slice 1 3 c 0 c none), (6, .int .i64 (i : Nat))] [some ⟨.ints .i64 ops, 0, false, 50⟩, some ⟨.ints .u8 bL, c, true, 5⟩, some ⟨.ints .i64 wL, c, true, 3⟩, some ⟨.ints .i64 sL, c, true, 3⟩] [some true, some false])
theorem E9b_ok {ops bL wL sL : List Int} {L C nb c : Nat} {i : Nat} (h : allP [.p (decide ((↑i : Int) < (↑L : Int)) = true), .p (decide ((↑i : Int) < 50) = false)]) : Ok (E9b ops bL wL sL L C nb c i) := Ok.dem (fl := [true, false, false]) (by kernel_rfl) (by kernel_rfl) (by kernel_rfl) h
theorem E9b_ex {ops bL wL sL : List Int} {L C nb c : Nat} {i : Nat} : (E9b ops bL wL sL L C nb c i).ex = .exit 0 := by kernel_rfl
theorem E9b_fm {ops bL wL sL : List Int} {L C nb c : Nat} {i : Nat} : (E9b ops bL wL sL L C nb c i).fm = [(3, .slice 1 1 c 0 nb none), (4, .slice 1 2 c 0 c none), (5, .slice 1 3 c 0 c none)] := by kernel_rfl
theorem E9b_tab {ops bL wL sL : List Int} {L C nb c : Nat} {i : Nat} : (E9b ops bL wL sL L C nb c i).tab = [some ⟨.ints .i64 ops, 0, false, 50⟩, some ⟨.ints .u8 bL, c, true, 5⟩, some ⟨.ints .i64 wL, c, true, 3⟩, some ⟨.ints .i64 sL, c, true, 3⟩] := by kernel_rfl
def szLaw (K : Int) : Int := (1 : Int) * 2 ^ ((K.tmod 5 + 5).tmod 5).toNat
def pcLaw (K N : Int) : List Int := if szLaw K = 16 then lenLaw N else numLaw N (szLaw K)
def peLaw (K N : Int) : Int := if szLaw K = 16 then lenErrLaw N else numErrLaw N (szLaw K)
def stepY (K N : Int) (s : List Int × List Int × List Int) : List Int × List Int × List Int := if peLaw K N = 0 then (s.1 ++ pcLaw K N, s.2.1 ++ [N], s.2.2 ++ [szLaw K]) else s
def stY (ops : List Int) : Nat → List Int × List Int × List Int
  | 0 => ([], [], [])
  | k + 1 => stepY (ops.getD (k * 2) 0) (ops.getD (k * 2 + 1) 0) (stY ops k)
theorem sz_cases (K : Int) : szLaw K = 1 ∨ szLaw K = 2 ∨ szLaw K = 4 ∨ szLaw K = 8 ∨ szLaw K = 16 := by
  unfold szLaw
  have h1 := Int.tmod_nonneg (5 : Int) (a := K.tmod 5 + 5) (by have := Int.tmod_lt_of_pos (-K) (b := 5) (by decide); rw [Int.neg_tmod] at this; omega)
  have h2 := Int.tmod_lt_of_pos (K.tmod 5 + 5) (b := 5) (by decide)
  generalize (K.tmod 5 + 5).tmod 5 = t at h1 h2
  obtain ⟨j, rfl⟩ := Int.eq_ofNat_of_zero_le h1
  rw [Int.toNat_natCast]
  have : j = 0 ∨ j = 1 ∨ j = 2 ∨ j = 3 ∨ j = 4 := by omega
  rcases this with rfl | rfl | rfl | rfl | rfl <;> decide
theorem sz_rng (K : Int) : (-9223372036854775808 ≤ K.tmod 5 + 5 ∧ K.tmod 5 + 5 ≤ 9223372036854775807) ∧ 0 ≤ (K.tmod 5 + 5).tmod 5 ∧ (K.tmod 5 + 5).tmod 5 < 5 := by
  have h0 := Int.tmod_lt_of_pos K (b := 5) (by decide)
  have h3 : -5 < K.tmod 5 := by have := Int.tmod_lt_of_pos (-K) (b := 5) (by decide); rw [Int.neg_tmod] at this; omega
  have h1 := Int.tmod_nonneg (5 : Int) (a := K.tmod 5 + 5) (by omega)
  have h2 := Int.tmod_lt_of_pos (K.tmod 5 + 5) (b := 5) (by decide)
  exact ⟨⟨by omega, by omega⟩, h1, h2⟩
theorem pc_len (K N : Int) : (pcLaw K N).length ≤ 8 := by
  unfold pcLaw
  split
  · have := lenLaw_len N; omega
  · unfold numLaw
    split
    · rename_i h
      unfold beLaw
      rw [List.length_map, List.length_range]
      have := h.1
      unfold sizedLaw at this
      omega
    · exact Nat.zero_le _
theorem stY_len (ops : List Int) : ∀ k, (stY ops k).1.length ≤ 8 * k ∧ (stY ops k).2.1.length ≤ k ∧ (stY ops k).2.2.length = (stY ops k).2.1.length
  | 0 => ⟨Nat.le_refl 0, Nat.le_refl 0, rfl⟩
  | k + 1 => by
    have h := stY_len ops k
    have hp := pc_len (ops.getD (k * 2) 0) (ops.getD (k * 2 + 1) 0)
    unfold stY stepY
    split
    · simp only [List.length_append, List.length_cons, List.length_nil]
      omega
    · omega
end Go.Abs

set_option linter.unusedVariables false
set_option linter.unusedSimpArgs false
set_option maxRecDepth 100000
set_option maxHeartbeats 4000000
namespace Go.Abs
open Go.Proofs Go.Proofs.Try
/-! ### CodecNumbers: the first loop runs -/
theorem loop9a {ops : List Int} {L C : Nat} (ho : L * 2 ≤ ops.length) (hL : L ≤ 140737488355000) : To eY 106 4 (.block 0 (.loop (roundOf 0 f9))) [(0, .slice 2 0 0 0 L (some C)), (3, .slice 1 1 (stY ops 0).2.1.length 0 (stY ops 0).1.length none), (4, .slice 1 2 (stY ops 0).2.1.length 0 (stY ops 0).2.1.length none), (5, .slice 1 3 (stY ops 0).2.1.length 0 (stY ops 0).2.1.length none), (6, .int .i64 0)] [some ⟨.ints .i64 ops, 0, false, 50⟩, some ⟨.ints .u8 (stY ops 0).1, (stY ops 0).2.1.length, true, 5⟩, some ⟨.ints .i64 (stY ops 0).2.1, (stY ops 0).2.1.length, true, 3⟩, some ⟨.ints .i64 (stY ops 0).2.2, (stY ops 0).2.1.length, true, 3⟩] .normal [(3, .slice 1 1 (stY ops (min L 50)).2.1.length 0 (stY ops (min L 50)).1.length none), (4, .slice 1 2 (stY ops (min L 50)).2.1.length 0 (stY ops (min L 50)).2.1.length none), (5, .slice 1 3 (stY ops (min L 50)).2.1.length 0 (stY ops (min L 50)).2.1.length none)] [some ⟨.ints .i64 ops, 0, false, 50⟩, some ⟨.ints .u8 (stY ops (min L 50)).1, (stY ops (min L 50)).2.1.length, true, 5⟩, some ⟨.ints .i64 (stY ops (min L 50)).2.1, (stY ops (min L 50)).2.1.length, true, 3⟩, some ⟨.ints .i64 (stY ops (min L 50)).2.2, (stY ops (min L 50)).2.1.length, true, 3⟩] := by
  refine To.rounds (E := eY) (n := 106) (k := 4) (id := 0) (c := roundOf 0 f9) (fun k : Nat => [(0, .slice 2 0 0 0 L (some C)), (3, .slice 1 1 (stY ops k).2.1.length 0 (stY ops k).1.length none), (4, .slice 1 2 (stY ops k).2.1.length 0 (stY ops k).2.1.length none), (5, .slice 1 3 (stY ops k).2.1.length 0 (stY ops k).2.1.length none), (6, .int .i64 (k : Nat))]) (fun k => [some ⟨.ints .i64 ops, 0, false, 50⟩, some ⟨.ints .u8 (stY ops k).1, (stY ops k).2.1.length, true, 5⟩, some ⟨.ints .i64 (stY ops k).2.1, (stY ops k).2.1.length, true, 3⟩, some ⟨.ints .i64 (stY ops k).2.2, (stY ops k).2.1.length, true, 3⟩]) (min L 50) (fun k hk => ?_) ?_
  · have hs := stY_len ops k
    have hst : stY ops (k + 1) = stepY (ops.getD (k * 2) 0) (ops.getD (k * 2 + 1) 0) (stY ops k) := rfl
    have hk1 : k < L := by omega
    have hk2 : k < 50 := by omega
    show To eY 106 4 (roundOf 0 f9) [(0, .slice 2 0 0 0 L (some C)), (3, .slice 1 1 (stY ops k).2.1.length 0 (stY ops k).1.length none), (4, .slice 1 2 (stY ops k).2.1.length 0 (stY ops k).2.1.length none), (5, .slice 1 3 (stY ops k).2.1.length 0 (stY ops k).2.1.length none), (6, .int .i64 (k : Nat))] [some ⟨.ints .i64 ops, 0, false, 50⟩, some ⟨.ints .u8 (stY ops k).1, (stY ops k).2.1.length, true, 5⟩, some ⟨.ints .i64 (stY ops k).2.1, (stY ops k).2.1.length, true, 3⟩, some ⟨.ints .i64 (stY ops k).2.2, (stY ops k).2.1.length, true, 3⟩] .normal [(0, .slice 2 0 0 0 L (some C)), (3, .slice 1 1 (stY ops (k + 1)).2.1.length 0 (stY ops (k + 1)).1.length none), (4, .slice 1 2 (stY ops (k + 1)).2.1.length 0 (stY ops (k + 1)).2.1.length none), (5, .slice 1 3 (stY ops (k + 1)).2.1.length 0 (stY ops (k + 1)).2.1.length none), (6, .int .i64 ((k + 1 : Nat) : Int))] [some ⟨.ints .i64 ops, 0, false, 50⟩, some ⟨.ints .u8 (stY ops (k + 1)).1, (stY ops (k + 1)).2.1.length, true, 5⟩, some ⟨.ints .i64 (stY ops (k + 1)).2.1, (stY ops (k + 1)).2.1.length, true, 3⟩, some ⟨.ints .i64 (stY ops (k + 1)).2.2, (stY ops (k + 1)).2.1.length, true, 3⟩]
    rw [hst]
    generalize stY ops k = s at hs ⊢
    obtain ⟨s1, s2, s3⟩ := s
    simp only at hs
    obtain ⟨hs1, hs2, hs3⟩ := hs
    have t1 : List.take s1.length s1 = s1 := List.take_length
    have t2 : List.take s2.length s2 = s2 := List.take_length
    have t3 : List.take s2.length s3 = s3 := by rw [← hs3]; exact List.take_length
    have hr := sz_rng (ops.getD (k * 2) 0)
    have hp := pc_len (ops.getD (k * 2) 0) (ops.getD (k * 2 + 1) 0)
    have hszc := sz_cases (ops.getD (k * 2) 0)
    generalize hKe : ops.getD (k * 2) 0 = K at hr hp hszc ⊢
    generalize hNe : ops.getD (k * 2 + 1) 0 = N at hp ⊢
    have hfold : (1 : Int) * 2 ^ ((K.tmod 5 + 5).tmod 5).toNat = szLaw K := rfl
    unfold stepY
    have hz0 : 0 ≤ szLaw K ∧ szLaw K ≤ 16 := by omega
    by_cases hz : szLaw K = 16
    · have hpe : peLaw K N = lenErrLaw N := if_pos hz
      have hpc : pcLaw K N = lenLaw N := if_pos hz
      have hz2 : (szLaw K == 16) = true := beq_iff_eq.2 hz
      rw [hpe, hpc]
      rw [hpc] at hp
      by_cases he : lenErrLaw N = 0
      · rw [if_pos he]
        have he2 : (lenErrLaw N == 0) = true := beq_iff_eq.2 he
        refine To.of (o := K9a ops s1 s2 s3 L C s1.length s2.length k) eY_ok hmC (Nat.le_refl 4) OrcOk.nil rfl (K9a_ok ?_) K9a_ex (by rw [K9a_fm] <;> (simp only [addO_eq, Nat.add_zero, Nat.zero_add, hKe, hNe, hfold, t1, t2, t3, List.take_length, List.length_append, List.length_cons, List.length_nil]; try rfl)) (by rw [K9a_tab] <;> (simp only [addO_eq, Nat.add_zero, Nat.zero_add, hKe, hNe, hfold, t1, t2, t3, List.take_length, List.length_append, List.length_cons, List.length_nil]; try rfl))
        simp only [allP, Con.h, addO_eq, Nat.add_zero, Nat.zero_add, hKe, hNe, hfold, hz2, he2, t1, t2, t3, List.take_length, List.length_append, List.length_cons, List.length_nil, Nat.le_refl, decide_eq_true_eq, decide_eq_false_iff_not, eq_self, true_and, and_true]
        omega
      · rw [if_neg he]
        have he2 : (lenErrLaw N == 0) = false := beq_eq_false_iff_ne.2 he
        refine To.of (o := K9b ops s1 s2 s3 L C s1.length s2.length k) eY_ok hmC (Nat.le_refl 4) OrcOk.nil rfl (K9b_ok ?_) K9b_ex (by rw [K9b_fm] <;> (simp only [addO_eq, Nat.add_zero, Nat.zero_add, hKe, hNe, hfold, t1, t2, t3, List.take_length, List.length_append, List.length_cons, List.length_nil]; try rfl)) (by rw [K9b_tab] <;> (simp only [addO_eq, Nat.add_zero, Nat.zero_add, hKe, hNe, hfold, t1, t2, t3, List.take_length, List.length_append, List.length_cons, List.length_nil]; try rfl))
        simp only [allP, Con.h, addO_eq, Nat.add_zero, Nat.zero_add, hKe, hNe, hfold, hz2, he2, t1, t2, t3, List.take_length, List.length_append, List.length_cons, List.length_nil, Nat.le_refl, decide_eq_true_eq, decide_eq_false_iff_not, eq_self, true_and, and_true]
        omega
    · have hpe : peLaw K N = numErrLaw N (szLaw K) := if_neg hz
      have hpc : pcLaw K N = numLaw N (szLaw K) := if_neg hz
      have hz2 : (szLaw K == 16) = false := beq_eq_false_iff_ne.2 hz
      rw [hpe, hpc]
      rw [hpc] at hp
      by_cases he : numErrLaw N (szLaw K) = 0
      · rw [if_pos he]
        have he2 : (numErrLaw N (szLaw K) == 0) = true := beq_iff_eq.2 he
        refine To.of (o := K9c ops s1 s2 s3 L C s1.length s2.length k) eY_ok hmC (Nat.le_refl 4) OrcOk.nil rfl (K9c_ok ?_) K9c_ex (by rw [K9c_fm] <;> (simp only [addO_eq, Nat.add_zero, Nat.zero_add, hKe, hNe, hfold, t1, t2, t3, List.take_length, List.length_append, List.length_cons, List.length_nil]; try rfl)) (by rw [K9c_tab] <;> (simp only [addO_eq, Nat.add_zero, Nat.zero_add, hKe, hNe, hfold, t1, t2, t3, List.take_length, List.length_append, List.length_cons, List.length_nil]; try rfl))
        simp only [allP, Con.h, addO_eq, Nat.add_zero, Nat.zero_add, hKe, hNe, hfold, hz2, he2, t1, t2, t3, List.take_length, List.length_append, List.length_cons, List.length_nil, Nat.le_refl, decide_eq_true_eq, decide_eq_false_iff_not, eq_self, true_and, and_true]
        omega
      · rw [if_neg he]
        have he2 : (numErrLaw N (szLaw K) == 0) = false := beq_eq_false_iff_ne.2 he
        refine To.of (o := K9d ops s1 s2 s3 L C s1.length s2.length k) eY_ok hmC (Nat.le_refl 4) OrcOk.nil rfl (K9d_ok ?_) K9d_ex (by rw [K9d_fm] <;> (simp only [addO_eq, Nat.add_zero, Nat.zero_add, hKe, hNe, hfold, t1, t2, t3, List.take_length, List.length_append, List.length_cons, List.length_nil]; try rfl)) (by rw [K9d_tab] <;> (simp only [addO_eq, Nat.add_zero, Nat.zero_add, hKe, hNe, hfold, t1, t2, t3, List.take_length, List.length_append, List.length_cons, List.length_nil]; try rfl))
        simp only [allP, Con.h, addO_eq, Nat.add_zero, Nat.zero_add, hKe, hNe, hfold, hz2, he2, t1, t2, t3, List.take_length, List.length_append, List.length_cons, List.length_nil, Nat.le_refl, decide_eq_true_eq, decide_eq_false_iff_not, eq_self, true_and, and_true]
        omega
  · by_cases h : L ≤ 50
    · rw [Nat.min_eq_left h]
      refine To.of (o := E9a ops (stY ops L).1 (stY ops L).2.1 (stY ops L).2.2 L C (stY ops L).1.length (stY ops L).2.1.length L) eY_ok hmC (Nat.le_refl 4) OrcOk.nil rfl (E9a_ok ?_) E9a_ex E9a_fm E9a_tab
      simp only [allP, Con.h, decide_eq_true_eq, decide_eq_false_iff_not, eq_self, true_and, and_true]
      omega
    · rw [Nat.min_eq_right (by omega)]
      refine To.of (o := E9b ops (stY ops 50).1 (stY ops 50).2.1 (stY ops 50).2.2 L C (stY ops 50).1.length (stY ops 50).2.1.length 50) eY_ok hmC (Nat.le_refl 4) OrcOk.nil rfl (E9b_ok ?_) E9b_ex E9b_fm E9b_tab
      simp only [allP, Con.h, decide_eq_true_eq, decide_eq_false_iff_not, eq_self, true_and, and_true]
      omega
end Go.Abs

set_option linter.unusedVariables false
set_option linter.unusedSimpArgs false
set_option maxRecDepth 100000
set_option maxHeartbeats 4000000
namespace Go.Abs
open Go.Proofs Go.Proofs.Try
/-! ### CodecNumbers: the second loop, rounds -/
noncomputable def M9l (ops bL wL sL B : List Int) (L C c off m : Nat) (i : Nat) : Out := trim 6 6 [4,5,10,11] (run eY 106 ⟨6, []⟩ 400 (roundOf 2 f9) [(4, .slice 1 2 c 0 m none), (5, .slice 1 3 c 0 m none), (10, .var 4 0), (11, .int .i64 (i : Nat))] [some ⟨.ints .i64 ops, 0, false, 50⟩, some ⟨.ints .u8 bL, c, true, 5⟩, some ⟨.ints .i64 wL, c, true, 3⟩, some ⟨.ints .i64 sL, c, true, 3⟩, some ⟨.agg [.slice 1 5 1 off (B.length - off) none, .int .i64 0, .bool true], 0, true, 60⟩, some ⟨.ints .u8 B, 1, true, 5⟩] [some true, some true, some false])
theorem M9l_ok {ops bL wL sL B : List Int} {L C c off m : Nat} {i : Nat} (h : allP [.eqN c c, .p (decide ((↑i : Int) < (↑m : Int)) = true), .eqN c c, .leI 0 (↑i : Int), .leI ((↑i : Int) + 1) (↑m : Int), .eqN c c, .leN (i + 1) sL.length, .p ((sL.getD i 0 == 16) = true), .eqN (B.length - off) (B.length - off), .leN off B.length, .p (ByLaw B), .eqN c c, .leI 0 (↑i : Int), .leI ((↑i : Int) + 1) (↑m :
 Int), .eqN c c, .leN (i + 1) wL.length, .p ((rlVLaw B off (OfNat.ofNat 0) != wL.getD i 0) = false), .rng (-9223372036854775808) ((↑i : Int) + 1) 9223372036854775807]) : Ok (M9l ops bL wL sL B L C c off m i) := Ok.dem (fl := bitsF 21 256) (by kernel_rfl) (by kernel_rfl) (by kernel_rfl) h
theorem M9l_ex {ops bL wL sL B : List Int} {L C c off m : Nat} {i : Nat} : (M9l ops bL wL sL B L C c off m i).ex = .normal := by kernel_rfl
theorem M9l_fm {ops bL wL sL B : List Int} {L C c off m : Nat} {i : Nat} : (M9l ops bL wL sL B L C c off m i).fm = [(4, .slice 1 2 c 0 m none), (5, .slice 1 3 c 0 m none), (10, .var 4 0), (11, .int .i64 ((↑i : Int) + 1))] := by kernel_rfl
theorem M9l_tab {ops bL wL sL B : List Int} {L C c off m : Nat} {i : Nat} : (M9l ops bL wL sL B L C c off m i).tab = [some ⟨.ints .i64 ops, 0, false, 50⟩, some ⟨.ints .u8 bL, c, true, 5⟩, some ⟨.ints .i64 wL, c, true, 3⟩, some ⟨.ints .i64 sL, c, true, 3⟩, some ⟨.agg [.slice 1 5 1 (rlOLaw B off (OfNat.ofNat 0)) (B.length - rlOLaw B off (OfNat.ofNat 0)) none, .int .i64 (rlELaw B off (OfNat.ofNat 0)),
 .bool true], 0, true, 60⟩, some ⟨.ints .u8 B, 1, true, 5⟩] := by kernel_rfl
noncomputable def M9n (ops bL wL sL B : List Int) (L C c off m : Nat) (i : Nat) : Out := trim 6 6 [4,5,10,11] (run eY 106 ⟨6, []⟩ 400 (roundOf 2 f9) [(4, .slice 1 2 c 0 m none), (5, .slice 1 3 c 0 m none), (10, .var 4 0), (11, .int .i64 (i : Nat))] [some ⟨.ints .i64 ops, 0, false, 50⟩, some ⟨.ints .u8 bL, c, true, 5⟩, some ⟨.ints .i64 wL, c, true, 3⟩, some ⟨.ints .i64 sL, c, true, 3⟩, some ⟨.agg [.slice 1 5 1 off (B.length - off) none, .int .i64 0, .bool true], 0, true, 60⟩, some ⟨.ints .u8 B, 1, true, 5⟩] [some true, some false, some false])
theorem M9n_ok {ops bL wL sL B : List Int} {L C c off m : Nat} {i : Nat} (h : allP [.eqN c c, .p (decide ((↑i : Int) < (↑m : Int)) = true), .eqN c c, .leI 0 (↑i : Int), .leI ((↑i : Int) + 1) (↑m : Int), .eqN c c, .leN (i + 1) sL.length, .p ((sL.getD i 0 == 16) = false), .eqN c c, .leI 0 (↑i : Int), .leI ((↑i : Int) + 1) (↑m : Int), .eqN c c, .leN (i + 1) sL.length, .eqN (B.length - off) (B.length -
 off), .leN off B.length, .p (ByLaw B), .eqN c c, .leI 0 (↑i : Int), .leI ((↑i : Int) + 1) (↑m : Int), .eqN c c, .leN (i + 1) wL.length, .p ((rnVLaw B off (OfNat.ofNat 0) (sL.getD i 0) != wL.getD i 0) = false), .rng (-9223372036854775808) ((↑i : Int) + 1) 9223372036854775807]) : Ok (M9n ops bL wL sL B L C c off m i) := Ok.dem (fl := bitsF 26 8192) (by kernel_rfl) (by kernel_rfl) (by kernel_rfl) h
theorem M9n_ex {ops bL wL sL B : List Int} {L C c off m : Nat} {i : Nat} : (M9n ops bL wL sL B L C c off m i).ex = .normal := by kernel_rfl
theorem M9n_fm {ops bL wL sL B : List Int} {L C c off m : Nat} {i : Nat} : (M9n ops bL wL sL B L C c off m i).fm = [(4, .slice 1 2 c 0 m none), (5, .slice 1 3 c 0 m none), (10, .var 4 0), (11, .int .i64 ((↑i : Int) + 1))] := by kernel_rfl
theorem M9n_tab {ops bL wL sL B : List Int} {L C c off m : Nat} {i : Nat} : (M9n ops bL wL sL B L C c off m i).tab = [some ⟨.ints .i64 ops, 0, false, 50⟩, some ⟨.ints .u8 bL, c, true, 5⟩, some ⟨.ints .i64 wL, c, true, 3⟩, some ⟨.ints .i64 sL, c, true, 3⟩, some ⟨.agg [.slice 1 5 1 (rnOLaw B off (OfNat.ofNat 0) (sL.getD i 0)) (B.length - rnOLaw B off (OfNat.ofNat 0) (sL.getD i 0)) none, .int .i64
 (rnELaw B off (OfNat.ofNat 0) (sL.getD i 0)), .bool true], 0, true, 60⟩, some ⟨.ints .u8 B, 1, true, 5⟩] := by kernel_rfl
noncomputable def X9 (ops bL wL sL B : List Int) (L C c off m : Nat) (i : Nat) : Out := trim 6 6 [10] (run eY 106 ⟨6, []⟩ 400 (roundOf 2 f9) [(4, .slice 1 2 c 0 m none), (5, .slice 1 3 c 0 m none), (10, .var 4 0), (11, .int .i64 (i : Nat))] [some ⟨.ints .i64 ops, 0, false, 50⟩, some ⟨.ints .u8 bL, c, true, 5⟩, some ⟨.ints .i64 wL, c, true, 3⟩, some ⟨.ints .i64 sL, c, true, 3⟩, some ⟨.agg [.slice 1 5 1 off (B.length - off) none, .int .i64 0, .bool true], 0, true, 60⟩, some ⟨.ints .u8 B, 1, true, 5⟩] [some false])
theorem X9_ok {ops bL wL sL B : List Int} {L C c off m : Nat} {i : Nat} (h : allP [.eqN c c, .p (decide ((↑i : Int) < (↑m : Int)) = false)]) : Ok (X9 ops bL wL sL B L C c off m i) := Ok.dem (fl := [false, false]) (by kernel_rfl) (by kernel_rfl) (by kernel_rfl) h
theorem X9_ex {ops bL wL sL B : List Int} {L C c off m : Nat} {i : Nat} : (X9 ops bL wL sL B L C c off m i).ex = .exit 2 := by kernel_rfl
theorem X9_fm {ops bL wL sL B : List Int} {L C c off m : Nat} {i : Nat} : (X9 ops bL wL sL B L C c off m i).fm = [(10, .var 4 0)] := by kernel_rfl
theorem X9_tab {ops bL wL sL B : List Int} {L C c off m : Nat} {i : Nat} : (X9 ops bL wL sL B L C c off m i).tab = [some ⟨.ints .i64 ops, 0, false, 50⟩, some ⟨.ints .u8 bL, c, true, 5⟩, some ⟨.ints .i64 wL, c, true, 3⟩, some ⟨.ints .i64 sL, c, true, 3⟩, some ⟨.agg [.slice 1 5 1 off (B.length - off) none, .int .i64 0, .bool true], 0, true, 60⟩, some ⟨.ints .u8 B, 1, true, 5⟩] := by kernel_rfl
end Go.Abs

set_option linter.unusedVariables false
set_option linter.unusedSimpArgs false
set_option maxRecDepth 100000
namespace Go.Abs
open Go.Proofs Go.Proofs.Try
/-! ### CodecNumbers: the bytes are the pieces, one behind the other -/
def pieceL (s w : Int) : List Int := if s = 16 then lenLaw w else numLaw w s
def GoodL (s w : Int) : Prop := (s = 16 ∧ 0 ≤ w ∧ w < 1073741824) ∨ (s ≠ 16 ∧ sizedLaw s ∧ 0 ≤ w ∧ w < mostLaw s)
def jnY : List Int → List Int → List Int
  | w :: ws, s :: ss => pieceL s w ++ jnY ws ss
  | _, _ => []
def AllY : List Int → List Int → Prop
  | w :: ws, s :: ss => GoodL s w ∧ AllY ws ss
  | [], [] => True
  | _, _ => False
theorem jnY_append : ∀ {ws ss : List Int}, AllY ws ss → ∀ w s, jnY (ws ++ [w]) (ss ++ [s]) = jnY ws ss ++ pieceL s w
  | [], [], _, w, s => by show pieceL s w ++ [] = [] ++ pieceL s w; simp
  | a :: ws, b :: ss, h, w, s => by
    show pieceL b a ++ jnY (ws ++ [w]) (ss ++ [s]) = (pieceL b a ++ jnY ws ss) ++ pieceL s w
    rw [jnY_append h.2, List.append_assoc]
  | [], _ :: _, h, _, _ => h.elim
  | _ :: _, [], h, _, _ => h.elim
theorem AllY_append : ∀ {ws ss : List Int} {w s : Int}, AllY ws ss → GoodL s w → AllY (ws ++ [w]) (ss ++ [s])
  | [], [], w, s, _, g => ⟨g, trivial⟩
  | a :: ws, b :: ss, w, s, h, g => ⟨h.1, AllY_append h.2 g⟩
  | [], _ :: _, _, _, h, _ => h.elim
  | _ :: _, [], _, _, h, _ => h.elim
theorem jnY_split : ∀ {ws ss : List Int}, AllY ws ss → ∀ {i : Nat}, i < ws.length →
    ∃ S, jnY ws ss = jnY (ws.take i) (ss.take i) ++ pieceL (ss.getD i 0) (ws.getD i 0) ++ S ∧ jnY (ws.take (i + 1)) (ss.take (i + 1)) = jnY (ws.take i) (ss.take i) ++ pieceL (ss.getD i 0) (ws.getD i 0) ∧ GoodL (ss.getD i 0) (ws.getD i 0)
  | [], [], _, i, hi => by simp at hi
  | a :: ws, b :: ss, h, 0, hi => ⟨jnY ws ss, by show pieceL b a ++ jnY ws ss = [] ++ pieceL b a ++ jnY ws ss; simp, by show pieceL b a ++ jnY (ws.take 0) (ss.take 0) = [] ++ pieceL b a; simp [jnY], h.1⟩
  | a :: ws, b :: ss, h, i + 1, hi => by
    obtain ⟨S, e1, e2, g⟩ := jnY_split h.2 (i := i) (by simpa using hi)
    refine ⟨S, ?_, ?_, g⟩
    · show pieceL b a ++ jnY ws ss = (pieceL b a ++ jnY (ws.take i) (ss.take i)) ++ pieceL (ss.getD i 0) (ws.getD i 0) ++ S
      rw [e1]; simp [List.append_assoc]
    · show pieceL b a ++ jnY (ws.take (i + 1)) (ss.take (i + 1)) = (pieceL b a ++ jnY (ws.take i) (ss.take i)) ++ pieceL (ss.getD i 0) (ws.getD i 0)
      rw [e2]; simp [List.append_assoc]
  | [], _ :: _, h, _, _ => h.elim
  | _ :: _, [], h, _, _ => h.elim
/-- one piece is read back -/
theorem piece_len {P S : List Int} {w : Int} (g : GoodL 16 w) : rlP (P ++ pieceL 16 w ++ S) P.length 0 = (w, P.length + (pieceL 16 w).length, 0) := by
  rcases g with ⟨_, h0, h1⟩ | ⟨h, _⟩
  · exact rl_back h0 h1
  · exact absurd rfl h
theorem piece_num {P S : List Int} {s w : Int} (hs : s ≠ 16) (g : GoodL s w) : rnP (P ++ pieceL s w ++ S) P.length 0 s = (w, P.length + (pieceL s w).length, 0) := by
  rcases g with ⟨h, _⟩ | ⟨_, h, h0, h1⟩
  · exact absurd h hs
  · unfold pieceL
    rw [if_neg hs]
    exact rn_back h h0 h1
theorem good_of {K N : Int} (h : peLaw K N = 0) : GoodL (szLaw K) N := by
  unfold peLaw at h
  by_cases hz : szLaw K = 16
  · rw [if_pos hz] at h
    refine .inl ⟨hz, ?_⟩
    unfold lenErrLaw at h
    split at h
    · exact absurd h (by decide)
    · omega
  · rw [if_neg hz] at h
    refine .inr ⟨hz, ?_⟩
    unfold numErrLaw at h
    split at h
    · rename_i hs
      split at h
      · rename_i h2
        exact ⟨hs, h2⟩
      · exact absurd h (by decide)
    · exact absurd h (by decide)
theorem stY_good (ops : List Int) : ∀ k, AllY (stY ops k).2.1 (stY ops k).2.2 ∧ (stY ops k).1 = jnY (stY ops k).2.1 (stY ops k).2.2
  | 0 => ⟨trivial, rfl⟩
  | k + 1 => by
    have h := stY_good ops k
    unfold stY stepY
    split
    · rename_i he
      refine ⟨AllY_append h.1 (good_of he), ?_⟩
      rw [jnY_append h.1, ← h.2]
      rfl
    · exact h
end Go.Abs

set_option linter.unusedVariables false
set_option linter.unusedSimpArgs false
set_option maxRecDepth 100000
set_option maxHeartbeats 4000000
namespace Go.Abs
open Go.Proofs Go.Proofs.Try
/-! ### CodecNumbers: the second loop -/
def poY (wL sL : List Int) (i : Nat) : Nat := (jnY (wL.take i) (sL.take i)).length
theorem loop9b {ops bL wL sL : List Int} {L C c : Nat} (h : AllY wL sL) (hl : sL.length = wL.length) (hm : wL.length ≤ 50) (hb : ByLaw (jnY wL sL)) : To eY 106 6 (.block 2 (.loop (roundOf 2 f9))) [(4, .slice 1 2 c 0 wL.length none), (5, .slice 1 3 c 0 wL.length none), (10, .var 4 0), (11, .int .i64 0)] [some ⟨.ints .i64 ops, 0, false, 50⟩, some ⟨.ints .u8 bL, c, true, 5⟩, some ⟨.ints .i64 wL, c, true, 3⟩, some ⟨.ints .i64 sL, c, true, 3⟩, some ⟨.agg [.slice 1 5 1 (poY wL sL 0) ((jnY wL sL).length - (poY wL sL 0)) none, .int .i64 0, .bool true], 0, true, 60⟩, some ⟨.ints .u8 (jnY wL sL), 1, true, 5⟩] .normal [(10, .var 4 0)] [some ⟨.ints .i64 ops, 0, false, 50⟩, some ⟨.ints .u8 bL, c, true, 5⟩, some ⟨.ints .i64 wL, c, true, 3⟩, some ⟨.ints .i64 sL, c, true, 3⟩, some ⟨.agg [.slice 1 5 1 (poY wL sL wL.length) ((jnY wL sL).length - (poY wL sL wL.length)) none, .int .i64 0, .bool true], 0, true, 60⟩, some ⟨.ints .u8 (jnY wL sL), 1, true, 5⟩] := by
  refine To.rounds (E := eY) (n := 106) (k := 6) (id := 2) (c := roundOf 2 f9) (fun k : Nat => [(4, .slice 1 2 c 0 wL.length none), (5, .slice 1 3 c 0 wL.length none), (10, .var 4 0), (11, .int .i64 (k : Nat))]) (fun k => [some ⟨.ints .i64 ops, 0, false, 50⟩, some ⟨.ints .u8 bL, c, true, 5⟩, some ⟨.ints .i64 wL, c, true, 3⟩, some ⟨.ints .i64 sL, c, true, 3⟩, some ⟨.agg [.slice 1 5 1 (poY wL sL k) ((jnY wL sL).length - (poY wL sL k)) none, .int .i64 0, .bool true], 0, true, 60⟩, some ⟨.ints .u8 (jnY wL sL), 1, true, 5⟩]) wL.length (fun k hk => ?_) (To.of (o := X9 ops bL wL sL (jnY wL sL) L C c (poY wL sL wL.length) wL.length wL.length) eY_ok hmC (Nat.le_refl 6) OrcOk.nil rfl (X9_ok ?_) X9_ex X9_fm X9_tab)
  · obtain ⟨S, e1, e2, g⟩ := jnY_split h hk
    have hp : poY wL sL (k + 1) = poY wL sL k + (pieceL (sL.getD k 0) (wL.getD k 0)).length := by unfold poY; rw [e2, List.length_append]
    have hle : poY wL sL k ≤ (jnY wL sL).length := by unfold poY; rw [e1]; simp only [List.length_append]; omega
    by_cases hs : sL.getD k 0 = 16
    · have hr : rlP (jnY wL sL) (poY wL sL k) 0 = (wL.getD k 0, (poY wL sL (k + 1)), 0) := by
        rw [hp, e1]
        rw [hs] at g ⊢
        exact piece_len g
      have v1 : rlVLaw (jnY wL sL) (poY wL sL k) 0 = wL.getD k 0 := by unfold rlVLaw; rw [hr]
      have v2 : rlOLaw (jnY wL sL) (poY wL sL k) 0 = (poY wL sL (k + 1)) := by unfold rlOLaw; rw [hr]
      have v3 : rlELaw (jnY wL sL) (poY wL sL k) 0 = 0 := by unfold rlELaw; rw [hr]
      refine To.of (o := M9l ops bL wL sL (jnY wL sL) L C c (poY wL sL k) wL.length k) eY_ok hmC (Nat.le_refl 6) OrcOk.nil rfl (M9l_ok ?_) M9l_ex M9l_fm (by rw [M9l_tab]; show ([some ⟨.ints .i64 ops, 0, false, 50⟩, some ⟨.ints .u8 bL, c, true, 5⟩, some ⟨.ints .i64 wL, c, true, 3⟩, some ⟨.ints .i64 sL, c, true, 3⟩, some ⟨.agg [.slice 1 5 1 (rlOLaw (jnY wL sL) (poY wL sL k) 0) ((jnY wL sL).length - rlOLaw (jnY wL sL) (poY wL sL k) 0) none, .int .i64 (rlELaw (jnY wL sL) (poY wL sL k) 0), .bool true], 0, true, 60⟩, some ⟨.ints .u8 (jnY wL sL), 1, true, 5⟩] : Tab) = _; rw [v2, v3])
      have q1 : (sL.getD k 0 == 16) = true := beq_iff_eq.2 hs
      simp only [allP, Con.h, v1, q1, hb, hle, bne_self_eq_false, decide_eq_true_eq, eq_self, true_and, and_true]
      omega
    · have hr : rnP (jnY wL sL) (poY wL sL k) 0 (sL.getD k 0) = (wL.getD k 0, (poY wL sL (k + 1)), 0) := by
        rw [hp, e1]
        exact piece_num hs g
      have v1 : rnVLaw (jnY wL sL) (poY wL sL k) 0 (sL.getD k 0) = wL.getD k 0 := by unfold rnVLaw; rw [hr]
      have v2 : rnOLaw (jnY wL sL) (poY wL sL k) 0 (sL.getD k 0) = (poY wL sL (k + 1)) := by unfold rnOLaw; rw [hr]
      have v3 : rnELaw (jnY wL sL) (poY wL sL k) 0 (sL.getD k 0) = 0 := by unfold rnELaw; rw [hr]
      refine To.of (o := M9n ops bL wL sL (jnY wL sL) L C c (poY wL sL k) wL.length k) eY_ok hmC (Nat.le_refl 6) OrcOk.nil rfl (M9n_ok ?_) M9n_ex M9n_fm (by rw [M9n_tab]; show ([some ⟨.ints .i64 ops, 0, false, 50⟩, some ⟨.ints .u8 bL, c, true, 5⟩, some ⟨.ints .i64 wL, c, true, 3⟩, some ⟨.ints .i64 sL, c, true, 3⟩, some ⟨.agg [.slice 1 5 1 (rnOLaw (jnY wL sL) (poY wL sL k) 0 (sL.getD k 0)) ((jnY wL sL).length - rnOLaw (jnY wL sL) (poY wL sL k) 0 (sL.getD k 0)) none, .int .i64 (rnELaw (jnY wL sL) (poY wL sL k) 0 (sL.getD k 0)), .bool true], 0, true, 60⟩, some ⟨.ints .u8 (jnY wL sL), 1, true, 5⟩] : Tab) = _; rw [v2, v3])
      have q1 : (sL.getD k 0 == 16) = false := beq_eq_false_iff_ne.2 hs
      simp only [allP, Con.h, v1, q1, hb, hle, bne_self_eq_false, decide_eq_true_eq, eq_self, true_and, and_true]
      omega
  · simp only [allP, Con.h, decide_eq_false_iff_not, eq_self, true_and, and_true]
    omega
end Go.Abs

set_option linter.unusedVariables false
set_option linter.unusedSimpArgs false
set_option maxRecDepth 100000
set_option maxHeartbeats 4000000
namespace Go.Abs
open Go.Proofs Go.Proofs.Try
/-! ### CodecNumbers: the law -/
noncomputable def c9a : Code := match backC 4 (bodyOf f9) with | .seq (.seq a _) _ => a | c => c
noncomputable def c9b : Code := match backC 4 (bodyOf f9) with | .seq _ (.seq a _) => a | c => c
noncomputable def c9c : Code := match backC 4 (bodyOf f9) with | .seq _ (.seq _ (.seq (.seq a _) _)) => a | c => c
noncomputable def c9d : Code := match backC 4 (bodyOf f9) with | .seq _ (.seq _ (.seq _ c)) => c | c => c
theorem split9 : backC 4 (bodyOf f9) = .seq (.seq c9a (.block 0 (.loop (roundOf 0 f9)))) (.seq c9b (.seq (.seq c9c (.block 2 (.loop (roundOf 2 f9)))) c9d)) := by kernel_rfl
noncomputable def N9 (ops : List Int) (L C : Nat) : Out := trim 1 1 [0,3,4,5] (runs eY 106 ⟨1, []⟩ 400 (frontC 4 (bodyOf f9)) [(0, .slice 2 0 0 0 L (some C))] [some ⟨.ints .i64 ops, 0, false, 50⟩] [])
theorem N9_ok {ops : List Int} {L C : Nat} (h : allP []) : Ok (N9 ops L C) := Ok.dem (fl := []) (by kernel_rfl) (by kernel_rfl) (by kernel_rfl) h
theorem N9_ex {ops : List Int} {L C : Nat} : (N9 ops L C).ex = .normal := by kernel_rfl
theorem N9_fm {ops : List Int} {L C : Nat} : (N9 ops L C).fm = [(0, .slice 2 0 0 0 L (some C)), (3, .nilSlice), (4, .nilSlice), (5, .nilSlice)] := by kernel_rfl
theorem N9_tab {ops : List Int} {L C : Nat} : (N9 ops L C).tab = [some ⟨.ints .i64 ops, 0, false, 50⟩] := by kernel_rfl
noncomputable def J9a (ops bL wL sL : List Int) (L C nb c : Nat) : Out := trim 4 4 [0,3,4,5,6] (run eY 106 ⟨4, []⟩ 400 c9a [(0, .slice 2 0 0 0 L (some C)), (3, .slice 1 1 c 0 nb none), (4, .slice 1 2 c 0 c none), (5, .slice 1 3 c 0 c none)] [some ⟨.ints .i64 ops, 0, false, 50⟩, some ⟨.ints .u8 bL, c, true, 5⟩, some ⟨.ints .i64 wL, c, true, 3⟩, some ⟨.ints .i64 sL, c, true, 3⟩] [])
theorem J9a_ok {ops bL wL sL : List Int} {L C nb c : Nat} (h : allP []) : Ok (J9a ops bL wL sL L C nb c) := Ok.dem (fl := []) (by kernel_rfl) (by kernel_rfl) (by kernel_rfl) h
theorem J9a_ex {ops bL wL sL : List Int} {L C nb c : Nat} : (J9a ops bL wL sL L C nb c).ex = .normal := by kernel_rfl
theorem J9a_fm {ops bL wL sL : List Int} {L C nb c : Nat} : (J9a ops bL wL sL L C nb c).fm = [(0, .slice 2 0 0 0 L (some C)), (3, .slice 1 1 c 0 nb none), (4, .slice 1 2 c 0 c none), (5, .slice 1 3 c 0 c none), (6, .int .i64 0)] := by kernel_rfl
theorem J9a_tab {ops bL wL sL : List Int} {L C nb c : Nat} : (J9a ops bL wL sL L C nb c).tab = [some ⟨.ints .i64 ops, 0, false, 50⟩, some ⟨.ints .u8 bL, c, true, 5⟩, some ⟨.ints .i64 wL, c, true, 3⟩, some ⟨.ints .i64 sL, c, true, 3⟩] := by kernel_rfl
noncomputable def J9b (ops bL wL sL : List Int) (L C nb c : Nat) : Out := trim 4 6 [4,5,10] (run eY 106 ⟨4, []⟩ 400 c9b [(3, .slice 1 1 c 0 nb none), (4, .slice 1 2 c 0 c none), (5, .slice 1 3 c 0 c none)] [some ⟨.ints .i64 ops, 0, false, 50⟩, some ⟨.ints .u8 bL, c, true, 5⟩, some ⟨.ints .i64 wL, c, true, 3⟩, some ⟨.ints .i64 sL, c, true, 3⟩] [])
theorem J9b_ok {ops bL wL sL : List Int} {L C nb c : Nat} (h : allP [.eqN c c, .leN (0 + nb) bL.length, .leN nb 140737488355000]) : Ok (J9b ops bL wL sL L C nb c) := Ok.dem (fl := [false, false, false, false, false]) (by kernel_rfl) (by kernel_rfl) (by kernel_rfl) h
theorem J9b_ex {ops bL wL sL : List Int} {L C nb c : Nat} : (J9b ops bL wL sL L C nb c).ex = .normal := by kernel_rfl
theorem J9b_fm {ops bL wL sL : List Int} {L C nb c : Nat} : (J9b ops bL wL sL L C nb c).fm = [(4, .slice 1 2 c 0 c none), (5, .slice 1 3 c 0 c none), (10, .var 4 0)] := by kernel_rfl
theorem J9b_tab {ops bL wL sL : List Int} {L C nb c : Nat} : (J9b ops bL wL sL L C nb c).tab = [some ⟨.ints .i64 ops, 0, false, 50⟩, some ⟨.ints .u8 bL, c, true, 5⟩, some ⟨.ints .i64 wL, c, true, 3⟩, some ⟨.ints .i64 sL, c, true, 3⟩, some ⟨.agg [.slice 1 5 1 0 nb none, .int .i64 0, .bool true], 0, true, 60⟩, some ⟨.ints .u8 (subLaw bL 0 nb), 1, true, 5⟩] := by kernel_rfl
noncomputable def J9c (ops bL wL sL B : List Int) (L C c off m : Nat) : Out := trim 6 6 [4,5,10,11] (run eY 106 ⟨6, []⟩ 400 c9c [(4, .slice 1 2 c 0 m none), (5, .slice 1 3 c 0 m none), (10, .var 4 0)] [some ⟨.ints .i64 ops, 0, false, 50⟩, some ⟨.ints .u8 bL, c, true, 5⟩, some ⟨.ints .i64 wL, c, true, 3⟩, some ⟨.ints .i64 sL, c, true, 3⟩, some ⟨.agg [.slice 1 5 1 off (B.length - off) none, .int .i64 0, .bool true], 0, true, 60⟩, some ⟨.ints .u8 B, 1, true, 5⟩] [])
theorem J9c_ok {ops bL wL sL B : List Int} {L C c off m : Nat} (h : allP []) : Ok (J9c ops bL wL sL B L C c off m) := Ok.dem (fl := []) (by kernel_rfl) (by kernel_rfl) (by kernel_rfl) h
theorem J9c_ex {ops bL wL sL B : List Int} {L C c off m : Nat} : (J9c ops bL wL sL B L C c off m).ex = .normal := by kernel_rfl
theorem J9c_fm {ops bL wL sL B : List Int} {L C c off m : Nat} : (J9c ops bL wL sL B L C c off m).fm = [(4, .slice 1 2 c 0 m none), (5, .slice 1 3 c 0 m none), (10, .var 4 0), (11, .int .i64 0)] := by kernel_rfl
theorem J9c_tab {ops bL wL sL B : List Int} {L C c off m : Nat} : (J9c ops bL wL sL B L C c off m).tab = [some ⟨.ints .i64 ops, 0, false, 50⟩, some ⟨.ints .u8 bL, c, true, 5⟩, some ⟨.ints .i64 wL, c, true, 3⟩, some ⟨.ints .i64 sL, c, true, 3⟩, some ⟨.agg [.slice 1 5 1 off (B.length - off) none, .int .i64 0, .bool true], 0, true, 60⟩, some ⟨.ints .u8 B, 1, true, 5⟩] := by kernel_rfl
noncomputable def Z9 (ops bL wL sL B : List Int) (L C c off m : Nat) : Out := trim 1 1 [2] (run eY 106 ⟨1, []⟩ 400 c9d [(10, .var 4 0)] [some ⟨.ints .i64 ops, 0, false, 50⟩, some ⟨.ints .u8 bL, c, true, 5⟩, some ⟨.ints .i64 wL, c, true, 3⟩, some ⟨.ints .i64 sL, c, true, 3⟩, some ⟨.agg [.slice 1 5 1 off (B.length - off) none, .int .i64 0, .bool true], 0, true, 60⟩, some ⟨.ints .u8 B, 1, true, 5⟩] [some true, some true])
theorem Z9_ok {ops bL wL sL B : List Int} {L C c off m : Nat} (h : allP [.eqN (B.length - off) (B.length - off), .p ((reLaw B off (OfNat.ofNat 0) == 0) = true), .p (true = true)]) : Ok (Z9 ops bL wL sL B L C c off m) := Ok.dem (fl := [true, false, false, false, false, false]) (by kernel_rfl) (by kernel_rfl) (by kernel_rfl) h
theorem Z9_ex {ops bL wL sL B : List Int} {L C c off m : Nat} : (Z9 ops bL wL sL B L C c off m).ex = .ret := by kernel_rfl
theorem Z9_fm {ops bL wL sL B : List Int} {L C c off m : Nat} : (Z9 ops bL wL sL B L C c off m).fm = [(2, .bool true)] := by kernel_rfl
theorem Z9_tab {ops bL wL sL B : List Int} {L C c off m : Nat} : (Z9 ops bL wL sL B L C c off m).tab = [some ⟨.ints .i64 ops, 0, false, 50⟩] := by kernel_rfl
end Go.Abs

set_option linter.unusedVariables false
set_option linter.unusedSimpArgs false
set_option maxRecDepth 100000
set_option maxHeartbeats 4000000
namespace Go.Abs
open Go.Proofs Go.Proofs.Try
/-! ### CodecNumbers: the law -/
def Bytes' (l : List Int) : Prop := ∀ z ∈ l, 0 ≤ z ∧ z < 256
theorem piece_by (s w : Int) : Bytes' (pieceL s w) := by
  intro z hz
  unfold pieceL at hz
  split at hz
  · unfold lenLaw at hz
    split at hz
    · simp at hz
    split at hz
    · simp at hz; omega
    split at hz
    · simp at hz; omega
    · simp at hz; omega
  · unfold numLaw at hz
    split at hz
    · unfold beLaw at hz
      obtain ⟨j, _, rfl⟩ := List.mem_map.1 hz
      exact ⟨Int.emod_nonneg _ (by decide), Int.emod_lt_of_pos _ (by decide)⟩
    · simp at hz
theorem jnY_by : ∀ {ws ss : List Int}, AllY ws ss → Bytes' (jnY ws ss)
  | [], [], _ => fun z hz => by simp [jnY] at hz
  | a :: ws, b :: ss, h => fun z hz => by
    have hz' : z ∈ pieceL b a ++ jnY ws ss := hz
    rcases List.mem_append.1 hz' with h1 | h1
    · exact piece_by _ _ z h1
    · exact jnY_by h.2 z h1
  | [], _ :: _, h => h.elim
  | _ :: _, [], h => h.elim
theorem law9 {ops : List Int} {L C : Nat} (ho : L * 2 ≤ ops.length) (hL : L ≤ 140737488355000) :
    Small prog (fun _ => none) 9 [.slice 2 0 0 0 L (some C)] [some ⟨.ints .i64 ops, 0, false, 50⟩] (.bool true) [some ⟨.ints .i64 ops, 0, false, 50⟩] := by
  refine small_of_awp eY_ok (f := 9) (fn := f9) (c := bodyOf f9) (by kernel_rfl) (by kernel_rfl) (by kernel_rfl) ?_
  show AWp eY 106 1 (bodyOf f9) [(0, .slice 2 0 0 0 L (some C))] [some ⟨.ints .i64 ops, 0, false, 50⟩] _
  refine AWp.cutTG eY_ok hmC (m := 1) 4 (o := N9 ops L C) rfl (N9_ok trivial) N9_ex ?_
  rw [split9, N9_fm, N9_tab]
  refine AWp.nilTo [(0, .slice 2 0 0 0 L (some C)), (3, .slice 1 1 0 0 0 none), (4, .nilSlice), (5, .nilSlice)] .u8 5 (fun t v hv => by
      simp only [look] at hv ⊢
      repeat' split at hv
      all_goals first
        | (injection hv with hv; subst hv; simp_all; done)
        | (simp_all; done)) ?_
  refine AWp.nilTo [(0, .slice 2 0 0 0 L (some C)), (3, .slice 1 1 0 0 0 none), (4, .slice 1 2 0 0 0 none), (5, .nilSlice)] .i64 3 (fun t v hv => by
      simp only [look] at hv ⊢
      repeat' split at hv
      all_goals first
        | (injection hv with hv; subst hv; simp_all; done)
        | (simp_all; done)) ?_
  refine AWp.nilTo [(0, .slice 2 0 0 0 L (some C)), (3, .slice 1 1 0 0 0 none), (4, .slice 1 2 0 0 0 none), (5, .slice 1 3 0 0 0 none)] .i64 3 (fun t v hv => by
      simp only [look] at hv ⊢
      repeat' split at hv
      all_goals first
        | (injection hv with hv; subst hv; simp_all; done)
        | (simp_all; done)) ?_
  refine AWp.seq (AWp.seq (AWp.mono (To.base (by decide) (To.of (o := J9a ops [] [] [] L C 0 0) eY_ok hmC (Nat.le_refl 4) OrcOk.nil rfl (J9a_ok trivial) J9a_ex J9a_fm J9a_tab)) fun ex fm T hP => ?_))
  obtain ⟨rfl, rfl, rfl⟩ := hP
  refine AWp.mono (To.base (by decide) (loop9a (C := C) ho hL)) fun ex fm T hP => ?_
  obtain ⟨rfl, rfl, rfl⟩ := hP
  have hg := stY_good ops (min L 50)
  have hn := stY_len ops (min L 50)
  generalize stY ops (min L 50) = s at hg hn ⊢
  obtain ⟨bL, wL, sL⟩ := s
  simp only at hg hn
  obtain ⟨ha, rfl⟩ := hg
  obtain ⟨n1, n2, n3⟩ := hn
  have hby := jnY_by ha
  have hb : ByLaw (jnY wL sL) := fun i => by
    rw [List.getD_eq_getElem?_getD]
    rcases Nat.lt_or_ge i (jnY wL sL).length with h | h
    · rw [List.getElem?_eq_getElem h]; exact hby _ (List.getElem_mem h)
    · rw [List.getElem?_eq_none h]; exact ⟨Int.le_refl 0, by decide⟩
  have hsub : subLaw (jnY wL sL) 0 (jnY wL sL).length = jnY wL sL := by unfold subLaw; rw [List.drop_zero, List.take_length]
  refine AWp.seq (AWp.mono (To.base (by decide) (To.of (o := J9b ops (jnY wL sL) wL sL L C (jnY wL sL).length wL.length) eY_ok hmC (Nat.le_refl 4) OrcOk.nil rfl (J9b_ok ?_) J9b_ex J9b_fm J9b_tab)) fun ex fm T hP => ?_)
  · simp only [allP, Con.h, eq_self, true_and, and_true]
    omega
  obtain ⟨rfl, rfl, rfl⟩ := hP
  rw [hsub]
  refine AWp.seq (AWp.seq (AWp.mono (To.base (by decide) (To.of (o := J9c ops (jnY wL sL) wL sL (jnY wL sL) L C wL.length 0 wL.length) eY_ok hmC (Nat.le_refl 6) OrcOk.nil rfl (J9c_ok trivial) J9c_ex J9c_fm J9c_tab)) fun ex fm T hP => ?_))
  obtain ⟨rfl, rfl, rfl⟩ := hP
  refine AWp.mono (To.base (by decide) (loop9b (L := L) (C := C) (c := wL.length) ha n3 (by omega) hb)) fun ex fm T hP => ?_
  obtain ⟨rfl, rfl, rfl⟩ := hP
  have hend : poY wL sL wL.length = (jnY wL sL).length := by unfold poY; rw [List.take_length, ← n3, List.take_length]
  have hre : (reLaw (jnY wL sL) (poY wL sL wL.length) 0 == 0) = true := by
    rw [hend, beq_iff_eq]; unfold reLaw; rw [if_neg (by decide), if_neg (by omega)]
  refine AWp.mono (To.of (o := Z9 ops (jnY wL sL) wL sL (jnY wL sL) L C wL.length (poY wL sL wL.length) wL.length) eY_ok hmC (Nat.le_refl 1) OrcOk.nil rfl (Z9_ok (by simp only [allP, Con.h, hre, eq_self, true_and, and_true])) Z9_ex Z9_fm Z9_tab) fun ex fm T hP => ?_
  obtain ⟨rfl, rfl, rfl⟩ := hP
  exact ⟨.inr rfl, rfl, [], [.bool true], rfl, trivial, rfl⟩
end Go.Abs
