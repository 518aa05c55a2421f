/- What functions of the given program come to, by the abstract machine: texts of a proof. -/
import Derived.Test.YtmhfelkcibfigaaAbs2
import Derived.Test.YtmhfelkcibfigaaProg
import Derived.KernelRfl
set_option linter.unusedVariables false
namespace Go.Abs
def tysC : List (Nat × Ty) := [
(1, ⟨.func, 1, 8, .nilFunc⟩),
(2, ⟨(.int .i64), 1, 8, (.int .i64 0)⟩),
(3, ⟨(.int .i64), 1, 8, (.int .i64 0)⟩),
(4, ⟨.bool, 1, 1, (.bool false)⟩),
(5, ⟨(.int .u8), 1, 1, (.int .u8 0)⟩),
(6, ⟨(.int .u8), 1, 1, (.int .u8 0)⟩),
(7, ⟨(.struct [(0, 2), (1, 3), (2, 4), (3, 6)]), 4, 24, (.agg [(.int .i64 0), (.int .i64 0), (.bool false), (.int .u8 0)])⟩),
(8, ⟨(.struct [(0, 2), (1, 3), (2, 4), (3, 6)]), 4, 24, (.agg [(.int .i64 0), (.int .i64 0), (.bool false), (.int .u8 0)])⟩),
(9, ⟨.str, 1, 16, (.str [])⟩),
(10, ⟨.str, 1, 16, (.str [])⟩),
(11, ⟨.str, 1, 16, (.str [])⟩),
(12, ⟨(.int .u64), 1, 8, (.int .u64 0)⟩),
(13, ⟨(.struct [(0, 9), (1, 12)]), 2, 24, (.agg [(.str []), (.int .u64 0)])⟩),
(14, ⟨(.struct [(0, 9), (1, 12)]), 2, 24, (.agg [(.str []), (.int .u64 0)])⟩),
(15, ⟨(.ptr 69), 1, 8, .nilPtr⟩),
(16, ⟨(.ptr 72), 1, 8, .nilPtr⟩),
(17, ⟨(.ptr 81), 1, 8, .nilPtr⟩),
(18, ⟨(.struct [(0, 17)]), 1, 8, (.agg [.nilPtr])⟩),
(19, ⟨(.struct [(0, 17)]), 1, 8, (.agg [.nilPtr])⟩),
(20, ⟨.iface, 1, 16, .nilIface⟩),
(21, ⟨(.int .i32), 1, 4, (.int .i32 0)⟩),
(22, ⟨(.slice 23), 1, 24, .nilSlice⟩),
(23, ⟨(.slice 5), 1, 24, .nilSlice⟩),
(24, ⟨(.int .i64), 1, 8, (.int .i64 0)⟩),
(26, ⟨.func, 1, 8, .nilFunc⟩),
(28, ⟨.func, 1, 8, .nilFunc⟩),
(29, ⟨.func, 1, 8, .nilFunc⟩),
(30, ⟨.func, 1, 8, .nilFunc⟩),
(31, ⟨.func, 1, 8, .nilFunc⟩),
(33, ⟨.func, 1, 8, .nilFunc⟩),
(34, ⟨.func, 1, 8, .nilFunc⟩),
(35, ⟨.func, 1, 8, .nilFunc⟩),
(36, ⟨.func, 1, 8, .nilFunc⟩),
(37, ⟨.func, 1, 8, .nilFunc⟩),
(38, ⟨.func, 1, 8, .nilFunc⟩),
(39, ⟨.func, 1, 8, .nilFunc⟩),
(40, ⟨.func, 1, 8, .nilFunc⟩),
(41, ⟨.func, 1, 8, .nilFunc⟩),
(42, ⟨.func, 1, 8, .nilFunc⟩),
(43, ⟨.func, 1, 8, .nilFunc⟩),
(44, ⟨(.slice 50), 1, 24, .nilSlice⟩),
(45, ⟨(.ptr 60), 1, 8, .nilPtr⟩),
(46, ⟨.func, 1, 8, .nilFunc⟩),
(47, ⟨(.ptr 57), 1, 8, .nilPtr⟩),
(48, ⟨.func, 1, 8, .nilFunc⟩),
(49, ⟨(.struct [(0, 3), (1, 3)]), 2, 16, (.ints .i64 [0, 0])⟩),
(50, ⟨(.struct [(0, 3), (1, 3)]), 2, 16, (.ints .i64 [0, 0])⟩),
(51, ⟨.func, 1, 8, .nilFunc⟩),
(52, ⟨.func, 1, 8, .nilFunc⟩),
(53, ⟨.func, 1, 8, .nilFunc⟩),
(54, ⟨.func, 1, 8, .nilFunc⟩),
(55, ⟨.func, 1, 8, .nilFunc⟩),
(56, ⟨(.struct [(0, 23), (1, 3), (2, 3)]), 3, 40, (.agg [.nilSlice, (.int .i64 0), (.int .i64 0)])⟩),
(57, ⟨(.struct [(0, 23), (1, 3), (2, 3)]), 3, 40, (.agg [.nilSlice, (.int .i64 0), (.int .i64 0)])⟩),
(58, ⟨.func, 1, 8, .nilFunc⟩),
(59, ⟨(.struct [(0, 23), (1, 24), (2, 4)]), 3, 40, (.agg [.nilSlice, (.int .i64 0), (.bool false)])⟩),
(60, ⟨(.struct [(0, 23), (1, 24), (2, 4)]), 3, 40, (.agg [.nilSlice, (.int .i64 0), (.bool false)])⟩),
(61, ⟨.func, 1, 8, .nilFunc⟩),
(62, ⟨(.slice 3), 1, 24, .nilSlice⟩),
(63, ⟨(.int .u64), 1, 8, (.int .u64 0)⟩),
(64, ⟨.func, 1, 8, .nilFunc⟩),
(65, ⟨.func, 1, 8, .nilFunc⟩),
(66, ⟨.func, 1, 8, .nilFunc⟩),
(67, ⟨.func, 1, 8, .nilFunc⟩),
(68, ⟨(.struct [(0, 17), (1, 17), (2, 17), (3, 9)]), 4, 40, (.agg [.nilPtr, .nilPtr, .nilPtr, (.str [])])⟩),
(69, ⟨(.struct [(0, 17), (1, 17), (2, 17), (3, 9)]), 4, 40, (.agg [.nilPtr, .nilPtr, .nilPtr, (.str [])])⟩),
(70, ⟨(.array 0 16), 0, 0, (.agg [])⟩),
(71, ⟨(.struct [(0, 70)]), 0, 0, (.agg [])⟩),
(72, ⟨(.struct [(0, 70)]), 0, 0, (.agg [])⟩),
(73, ⟨(.int .u32), 1, 4, (.int .u32 0)⟩),
(74, ⟨(.int .u8), 1, 1, (.int .u8 0)⟩),
(75, ⟨(.int .u8), 1, 1, (.int .u8 0)⟩),
(76, ⟨.func, 1, 8, .nilFunc⟩),
(77, ⟨(.ptr 5), 1, 8, .nilPtr⟩),
(78, ⟨(.int .i32), 1, 4, (.int .i32 0)⟩),
(79, ⟨(.int .i32), 1, 4, (.int .i32 0)⟩),
(80, ⟨(.struct [(0, 12), (1, 12), (2, 73), (3, 74), (4, 5), (5, 5), (6, 75), (7, 76), (8, 77), (9, 78), (10, 79)]), 11, 48, (.agg [(.int .u64 0), (.int .u64 0), (.int .u32 0), (.int .u8 0), (.int .u8 0), (.int .u8 0), (.int .u8 0), .nilFunc, .nilPtr, (.int .i32 0), (.int .i32 0)])⟩),
(81, ⟨(.struct [(0, 12), (1, 12), (2, 73), (3, 74), (4, 5), (5, 5), (6, 75), (7, 76), (8, 77), (9, 78), (10, 79)]), 11, 48, (.agg [(.int .u64 0), (.int .u64 0), (.int .u32 0), (.int .u8 0), (.int .u8 0), (.int .u8 0), (.int .u8 0), .nilFunc, .nilPtr, (.int .i32 0), (.int .i32 0)])⟩),
(82, ⟨.other, 1, 8, .nilPtr⟩)]
theorem tysC_ok : TysOk Go.Proofs.Try.prog tysC := by
  refine ⟨?_, ?_, ?_, ?_, ?_, ?_, ?_, ?_, ?_, ?_, ?_, ?_, ?_, ?_, ?_, ?_, ?_, ?_, ?_, ?_, ?_, ?_, ?_, ?_, ?_, ?_, ?_, ?_, ?_, ?_, ?_, ?_, ?_, ?_, ?_, ?_, ?_, ?_, ?_, ?_, ?_, ?_, ?_, ?_, ?_, ?_, ?_, ?_, ?_, ?_, ?_, ?_, ?_, ?_, ?_, ?_, ?_, ?_, ?_, ?_, ?_, ?_, ?_, ?_, ?_, ?_, ?_, ?_, ?_, ?_, ?_, ?_, ?_, ?_, ?_, ?_, ?_, ?_, ?_, trivial⟩ <;> kernel_rfl
noncomputable def eC0 (fns : List (Nat × Summary)) : Env := envOf Go.Proofs.Try.prog tysC fns (fun _ => none)
theorem hmC : Go.Proofs.Try.prog.follows .mixedOrders = true := by kernel_rfl
theorem eC0_ok : EnvOk (eC0 []) := envOf_ok tysC_ok trivial
end Go.Abs

set_option linter.unusedVariables false
set_option linter.unusedSimpArgs false
set_option maxRecDepth 8000
namespace Go.Abs
open Go.Proofs.Try
/-! ### codec: what needs no contract of its own -/
noncomputable def S12 : Summary := sumI modeO (eC0 []) f12 [] 100 [] []
theorem S12_ok : SumOk prog (fun _ => none) 12 S12 := sumI_ok eC0_ok hmC (fn := f12) (by kernel_rfl) (by kernel_rfl) [] FnOrc.nil 100 [] []
noncomputable def S35 : Summary := sumI modeO (eC0 []) f35 [] 100 [] []
theorem S35_ok : SumOk prog (fun _ => none) 35 S35 := sumI_ok eC0_ok hmC (fn := f35) (by kernel_rfl) (by kernel_rfl) [] FnOrc.nil 100 [] []
noncomputable def S33 : Summary := sumI modeO (eC0 []) f33 [] 100 [] []
theorem S33_ok : SumOk prog (fun _ => none) 33 S33 := sumI_ok eC0_ok hmC (fn := f33) (by kernel_rfl) (by kernel_rfl) [] FnOrc.nil 100 [] []
noncomputable def S44 : Summary := sumI modeO (eC0 []) f44 [] 100 [] []
theorem S44_ok : SumOk prog (fun _ => none) 44 S44 := sumI_ok eC0_ok hmC (fn := f44) (by kernel_rfl) (by kernel_rfl) [] FnOrc.nil 100 [] []
noncomputable def S39 : Summary := sumI modeO (eC0 []) f39 [] 100 [] []
theorem S39_ok : SumOk prog (fun _ => none) 39 S39 := sumI_ok eC0_ok hmC (fn := f39) (by kernel_rfl) (by kernel_rfl) [] FnOrc.nil 100 [] []
noncomputable def S40 : Summary := sumI modeO (eC0 []) f40 [] 400 [] []
theorem S40_ok : SumOk prog (fun _ => none) 40 S40 := sumI_ok eC0_ok hmC (fn := f40) (by kernel_rfl) (by kernel_rfl) [] FnOrc.nil 400 [] []
noncomputable def S45 : Summary := sumI modeO (eC0 []) f45 [] 400 [] []
theorem S45_ok : SumOk prog (fun _ => none) 45 S45 := sumI_ok eC0_ok hmC (fn := f45) (by kernel_rfl) (by kernel_rfl) [] FnOrc.nil 400 [] []
noncomputable def eC1 : Env := eC0 [(12, S12), (35, S35), (33, S33), (44, S44), (39, S39), (40, S40), (45, S45)]
theorem eC1_ok : EnvOk eC1 := envOf_ok tysC_ok (SumsOk.cons (fn := f12) S12_ok (by kernel_rfl) (by kernel_rfl) (by kernel_rfl) (SumsOk.cons (fn := f35) S35_ok (by kernel_rfl) (by kernel_rfl) (by kernel_rfl) (SumsOk.cons (fn := f33) S33_ok (by kernel_rfl) (by kernel_rfl) (by kernel_rfl)
  (SumsOk.cons (fn := f44) S44_ok (by kernel_rfl) (by kernel_rfl) (by kernel_rfl) (SumsOk.cons (fn := f39) S39_ok (by kernel_rfl) (by kernel_rfl) (by kernel_rfl) (SumsOk.cons (fn := f40) S40_ok (by kernel_rfl) (by kernel_rfl) (by kernel_rfl) (SumsOk.cons (fn := f45) S45_ok (by kernel_rfl) (by kernel_rfl) (by kernel_rfl) trivial)))))))
noncomputable def S27 : Summary := sumI modeO eC1 f27 [] 400 [] [true, true]
theorem S27_ok : SumOk prog (fun _ => none) 27 S27 := sumI_ok eC1_ok hmC (fn := f27) (by kernel_rfl) (by kernel_rfl) [] FnOrc.nil 400 [] [true, true]
noncomputable def S31 : Summary := sumI modeO eC1 f31 [] 400 [] [true, true]
theorem S31_ok : SumOk prog (fun _ => none) 31 S31 := sumI_ok eC1_ok hmC (fn := f31) (by kernel_rfl) (by kernel_rfl) [] FnOrc.nil 400 [] [true, true]
noncomputable def S23 : Summary := sumI modeO eC1 f23 [] 400 [] []
theorem S23_ok : SumOk prog (fun _ => none) 23 S23 := sumI_ok eC1_ok hmC (fn := f23) (by kernel_rfl) (by kernel_rfl) [] FnOrc.nil 400 [] []
noncomputable def S18 : Summary := sumI modeO eC1 f18 [] 400 [] []
theorem S18_ok : SumOk prog (fun _ => none) 18 S18 := sumI_ok eC1_ok hmC (fn := f18) (by kernel_rfl) (by kernel_rfl) [] FnOrc.nil 400 [] []
end Go.Abs

set_option linter.unusedVariables false
set_option linter.unusedSimpArgs false
set_option maxRecDepth 8000
namespace Go.Abs
open Go.Proofs.Try
noncomputable def eC2 : Env := eC0 [(12, S12), (35, S35), (33, S33), (44, S44), (18, S18), (27, S27), (31, S31)]
theorem eC2_ok : EnvOk eC2 := envOf_ok tysC_ok (SumsOk.cons (fn := f12) S12_ok (by kernel_rfl) (by kernel_rfl) (by kernel_rfl) (SumsOk.cons (fn := f35) S35_ok (by kernel_rfl) (by kernel_rfl) (by kernel_rfl) (SumsOk.cons (fn := f33) S33_ok (by kernel_rfl) (by kernel_rfl) (by kernel_rfl)
  (SumsOk.cons (fn := f44) S44_ok (by kernel_rfl) (by kernel_rfl) (by kernel_rfl) (SumsOk.cons (fn := f18) S18_ok (by kernel_rfl) (by kernel_rfl) (by kernel_rfl) (SumsOk.cons (fn := f27) S27_ok (by kernel_rfl) (by kernel_rfl) (by kernel_rfl) (SumsOk.cons (fn := f31) S31_ok (by kernel_rfl) (by kernel_rfl) (by kernel_rfl) trivial)))))))
noncomputable def S10 : Summary := sumI modeO eC2 f10 [] 400 [] []
theorem S10_ok : SumOk prog (fun _ => none) 10 S10 := sumI_ok eC2_ok hmC (fn := f10) (by kernel_rfl) (by kernel_rfl) [] FnOrc.nil 400 [] []
noncomputable def S29 : Summary := sumI modeO eC2 f29 [] 400 [] [true, true]
theorem S29_ok : SumOk prog (fun _ => none) 29 S29 := sumI_ok eC2_ok hmC (fn := f29) (by kernel_rfl) (by kernel_rfl) [] FnOrc.nil 400 [] [true, true]
noncomputable def eC3 : Env := eC0 [(10, S10)]
theorem eC3_ok : EnvOk eC3 := envOf_ok tysC_ok (SumsOk.cons (fn := f10) S10_ok (by kernel_rfl) (by kernel_rfl) (by kernel_rfl) trivial)
noncomputable def S20 : Summary := sumI modeO eC3 f20 [] 400 [] []
theorem S20_ok : SumOk prog (fun _ => none) 20 S20 := sumI_ok eC3_ok hmC (fn := f20) (by kernel_rfl) (by kernel_rfl) [] FnOrc.nil 400 [] []
noncomputable def eC4 : Env := eC0 [(12, S12), (35, S35), (33, S33), (20, S20), (23, S23), (29, S29)]
theorem eC4_ok : EnvOk eC4 := envOf_ok tysC_ok (SumsOk.cons (fn := f12) S12_ok (by kernel_rfl) (by kernel_rfl) (by kernel_rfl) (SumsOk.cons (fn := f35) S35_ok (by kernel_rfl) (by kernel_rfl) (by kernel_rfl) (SumsOk.cons (fn := f33) S33_ok (by kernel_rfl) (by kernel_rfl) (by kernel_rfl)
  (SumsOk.cons (fn := f20) S20_ok (by kernel_rfl) (by kernel_rfl) (by kernel_rfl) (SumsOk.cons (fn := f23) S23_ok (by kernel_rfl) (by kernel_rfl) (by kernel_rfl) (SumsOk.cons (fn := f29) S29_ok (by kernel_rfl) (by kernel_rfl) (by kernel_rfl) trivial))))))
noncomputable def R13  : Res := runF eC4 f13 [] 400 [] [] []
theorem R13_ok  (h : allP []) : OkR (R13 ) := OkR.dem (fl := bitsF 228 431359146674409803981575447359250280951717684534915686597039442886655) (by kernel_rfl) (by kernel_rfl) (by kernel_rfl) h
theorem R13_val  : (R13 ).val = .bool true := by kernel_rfl
end Go.Abs

set_option linter.unusedVariables false
set_option linter.unusedSimpArgs false
set_option maxRecDepth 8000
namespace Go.Abs
open Go.Proofs.Try
def sm13 : Summary := fun args T => match args, T with
  | [], [] => ⟨[], .bool true, []⟩
  | _, _ => fail
theorem sm13_ok : SmOk prog (fun _ => none) 13 sm13 := by
  intro args T hc
  unfold sm13 at hc ⊢
  split at hc
  · have h := small_of (R := R13) eC4_ok hmC (f := 13) (fn := f13) (by kernel_rfl) (by kernel_rfl) FnOrc.nil rfl (R13_ok trivial) R13_val rfl
    exact small_drop h
  · exact absurd hc nofail
def S13 : Summary := callR sm13 []
theorem S13_ok : SumOk prog (fun _ => none) 13 S13 := callR_ok sm13_ok []
end Go.Abs

set_option linter.unusedVariables false
set_option linter.unusedSimpArgs false
set_option maxRecDepth 8000
namespace Go.Abs
open Go.Proofs.Try
end Go.Abs

set_option linter.unusedVariables false
set_option linter.unusedSimpArgs false
set_option maxRecDepth 8000
namespace Go.Abs
open Go.Proofs.Try
def sizedLaw (size : Int) : Prop := size = 1 ∨ size = 2 ∨ size = 4 ∨ size = 8
instance (size : Int) : Decidable (sizedLaw size) := by unfold sizedLaw; exact inferInstance
/-! ### of the document -/
noncomputable def S41 : Summary := sumI modeO (eC0 []) f41 [] 100 [] []
theorem S41_ok : SumOk prog (fun _ => none) 41 S41 := sumI_ok eC0_ok hmC (fn := f41) (by kernel_rfl) (by kernel_rfl) [] FnOrc.nil 100 [] []
noncomputable def S42 : Summary := sumI modeO (eC0 []) f42 [] 100 [] []
theorem S42_ok : SumOk prog (fun _ => none) 42 S42 := sumI_ok eC0_ok hmC (fn := f42) (by kernel_rfl) (by kernel_rfl) [] FnOrc.nil 100 [] []
noncomputable def S43 : Summary := sumI modeO (eC0 []) f43 [] 400 [] []
theorem S43_ok : SumOk prog (fun _ => none) 43 S43 := sumI_ok eC0_ok hmC (fn := f43) (by kernel_rfl) (by kernel_rfl) [] FnOrc.nil 400 [] []
noncomputable def eC6 : Env := eC0 [(41, S41), (42, S42), (43, S43)]
theorem eC6_ok : EnvOk eC6 := envOf_ok tysC_ok (SumsOk.cons (fn := f41) S41_ok (by kernel_rfl) (by kernel_rfl) (by kernel_rfl) (SumsOk.cons (fn := f42) S42_ok (by kernel_rfl) (by kernel_rfl) (by kernel_rfl) (SumsOk.cons (fn := f43) S43_ok (by kernel_rfl) (by kernel_rfl) (by kernel_rfl) trivial)))
end Go.Abs

set_option linter.unusedVariables false
set_option linter.unusedSimpArgs false
set_option maxRecDepth 8000
namespace Go.Abs
open Go.Proofs.Try
/-! ### lengths -/
def lenLaw (n : Int) : List Int :=
  if n < 0 ∨ 1073741824 ≤ n then [] else if n < 64 then [n / 1 % 256] else if n < 16384 then [(n + 16384) / 256 % 256, (n + 16384) / 1 % 256]
  else [(n + 2147483648) / 16777216 % 256, (n + 2147483648) / 65536 % 256, (n + 2147483648) / 256 % 256, (n + 2147483648) / 1 % 256]
def lenErrLaw (n : Int) : Int := if n < 0 ∨ 1073741824 ≤ n then 11 else 0
theorem ior_add {a b : Int} {k : Nat} (ha : 0 ≤ a) (hk : a < 2 ^ k) (hb : 0 ≤ b) : ior a (b * 2 ^ k) = a + b * 2 ^ k := by
  obtain ⟨m, rfl⟩ := Int.eq_ofNat_of_zero_le ha
  obtain ⟨c, rfl⟩ := Int.eq_ofNat_of_zero_le hb
  have hm : m < 2 ^ k := by exact_mod_cast hk
  have e : ((c : Int) * 2 ^ k).toNat = c <<< k := by rw [Nat.shiftLeft_eq]; exact_mod_cast Int.toNat_natCast _
  unfold ior
  rw [e, Int.toNat_natCast, Nat.or_comm, ← Nat.shiftLeft_add_eq_or_of_lt hm, Nat.shiftLeft_eq]
  push_cast
  omega
noncomputable def R18a (n : Int) : Res := runF eC1 f18 [] 400 [.int .i64 n] [] [none, some true, some true]
theorem R18a_ok {n : Int} (h : allP [.p (decide (0 ≤ n) = true), .p ((n / 64 == 0) = true), .nn .i64 n]) : OkR (R18a n) := OkR.dem (fl := bitsF 29 536868795) (by kernel_rfl) (by kernel_rfl) (by kernel_rfl) h
theorem R18a_val {n : Int} : (R18a n).val = .tuple [.slice 1 0 0 0 1 (some 1), .int .i64 0] := by kernel_rfl
theorem R18a_tab {n : Int} : (R18a n).tab = [some ⟨.ints .u8 [ior n 0 / 1 % 256], 0, true, 5⟩] := by kernel_rfl
noncomputable def R18b (n : Int) : Res := runF eC1 f18 [] 400 [.int .i64 n] [] [none, some true, some false, none, some true, some true]
theorem R18b_ok {n : Int} (h : allP [.p (decide (0 ≤ n) = true), .p ((n / 64 == 0) = false), .p (decide (0 ≤ n) = true), .p ((n / 16384 == 0) = true), .nn .i64 n]) : OkR (R18b n) := OkR.dem (fl := bitsF 49 562949952879547) (by kernel_rfl) (by kernel_rfl) (by kernel_rfl) h
theorem R18b_val {n : Int} : (R18b n).val = .tuple [.slice 1 0 0 0 2 (some 2), .int .i64 0] := by kernel_rfl
theorem R18b_tab {n : Int} : (R18b n).tab = [some ⟨.ints .u8 [ior n 16384 / 256 % 256, ior n 16384 / 1 % 256], 0, true, 5⟩] := by kernel_rfl
noncomputable def R18c (n : Int) : Res := runF eC1 f18 [] 400 [.int .i64 n] [] [none, some true, some false, none, some true, some false, none, some true, some true]
theorem R18c_ok {n : Int} (h : allP [.p (decide (0 ≤ n) = true), .p ((n / 64 == 0) = false), .p (decide (0 ≤ n) = true), .p ((n / 16384 == 0) = false), .p (decide (0 ≤ n) = true), .p ((n / 1073741824 == 0) = true), .nn .i64 n]) : OkR (R18c n) := OkR.dem (fl := bitsF 81 2417851639229258210720699) (by kernel_rfl) (by kernel_rfl) (by kernel_rfl) h
theorem R18c_val {n : Int} : (R18c n).val = .tuple [.slice 1 0 0 0 4 (some 4), .int .i64 0] := by kernel_rfl
theorem R18c_tab {n : Int} : (R18c n).tab = [some ⟨.ints .u8 [ior n 2147483648 / 16777216 % 256, ior n 2147483648 / 65536 % 256, ior n 2147483648 / 256 % 256, ior n 2147483648 / 1 % 256], 0, true, 5⟩] := by kernel_rfl
noncomputable def R18d (n : Int) : Res := runF eC1 f18 [] 400 [.int .i64 n] [] [none, some false, none, some false, none, some false]
theorem R18d_ok {n : Int} (h : allP [.p (decide (0 ≤ n) = false), .p (decide (0 ≤ n) = false), .p (decide (0 ≤ n) = false)]) : OkR (R18d n) := OkR.dem (fl := bitsF 12 3003) (by kernel_rfl) (by kernel_rfl) (by kernel_rfl) h
theorem R18d_val {n : Int} : (R18d n).val = .tuple [.nilSlice, .int .i64 11] := by kernel_rfl
theorem R18d_tab {n : Int} : (R18d n).tab = [] := by kernel_rfl
noncomputable def R18e (n : Int) : Res := runF eC1 f18 [] 400 [.int .i64 n] [] [none, some true, some false, none, some true, some false, none, some true, some false]
theorem R18e_ok {n : Int} (h : allP [.p (decide (0 ≤ n) = true), .p ((n / 64 == 0) = false), .p (decide (0 ≤ n) = true), .p ((n / 16384 == 0) = false), .p (decide (0 ≤ n) = true), .p ((n / 1073741824 == 0) = false)]) : OkR (R18e n) := OkR.dem (fl := bitsF 24 12303291) (by kernel_rfl) (by kernel_rfl) (by kernel_rfl) h
theorem R18e_val {n : Int} : (R18e n).val = .tuple [.nilSlice, .int .i64 11] := by kernel_rfl
theorem R18e_tab {n : Int} : (R18e n).tab = [] := by kernel_rfl
noncomputable def R19a (n : Int) : Res := runF eC6 f19 [] 400 [.int .i64 n] [] [some false, some false, some true]
theorem R19a_ok {n : Int} (h : allP [.p (decide (n < 0) = false), .p (decide (1073741824 ≤ n) = false), .p (decide (n < 64) = true)]) : OkR (R19a n) := OkR.dem (fl := bitsF 15 32760) (by kernel_rfl) (by kernel_rfl) (by kernel_rfl) h
theorem R19a_val {n : Int} : (R19a n).val = .tuple [.slice 1 0 0 0 1 none, .int .i64 0] := by kernel_rfl
theorem R19a_tab {n : Int} : (R19a n).tab = [some ⟨.ints .u8 [n / 1 % 256], 0, true, 5⟩] := by kernel_rfl
noncomputable def R19b (n : Int) : Res := runF eC6 f19 [] 400 [.int .i64 n] [] [some false, some false, some false, some true]
theorem R19b_ok {n : Int} (h : allP [.p (decide (n < 0) = false), .p (decide (1073741824 ≤ n) = false), .p (decide (n < 64) = false), .p (decide (n < 16384) = true), .rng (-9223372036854775808) (n + 16384) 9223372036854775807]) : OkR (R19b n) := OkR.dem (fl := bitsF 30 1073741792) (by kernel_rfl) (by kernel_rfl) (by kernel_rfl) h
theorem R19b_val {n : Int} : (R19b n).val = .tuple [.slice 1 0 1 0 2 none, .int .i64 0] := by kernel_rfl
theorem R19b_tab {n : Int} : (R19b n).tab = [some ⟨.ints .u8 [(n + 16384) / 256 % 256, (n + 16384) / 1 % 256], 1, true, 5⟩] := by kernel_rfl
noncomputable def R19c (n : Int) : Res := runF eC6 f19 [] 400 [.int .i64 n] [] [some false, some false, some false, some false]
theorem R19c_ok {n : Int} (h : allP [.p (decide (n < 0) = false), .p (decide (1073741824 ≤ n) = false), .p (decide (n < 64) = false), .p (decide (n < 16384) = false), .rng (-9223372036854775808) (n + 2147483648) 9223372036854775807]) : OkR (R19c n) := OkR.dem (fl := bitsF 56 72057594037927904) (by kernel_rfl) (by kernel_rfl) (by kernel_rfl) h
theorem R19c_val {n : Int} : (R19c n).val = .tuple [.slice 1 0 3 0 4 none, .int .i64 0] := by kernel_rfl
theorem R19c_tab {n : Int} : (R19c n).tab = [some ⟨.ints .u8 [(n + 2147483648) / 16777216 % 256, (n + 2147483648) / 65536 % 256, (n + 2147483648) / 256 % 256, (n + 2147483648) / 1 % 256], 3, true, 5⟩] := by kernel_rfl
noncomputable def R19d (n : Int) : Res := runF eC6 f19 [] 400 [.int .i64 n] [] [some true]
theorem R19d_ok {n : Int} (h : allP [.p (decide (n < 0) = true)]) : OkR (R19d n) := OkR.dem (fl := [false]) (by kernel_rfl) (by kernel_rfl) (by kernel_rfl) h
theorem R19d_val {n : Int} : (R19d n).val = .tuple [.nilSlice, .int .i64 11] := by kernel_rfl
theorem R19d_tab {n : Int} : (R19d n).tab = [] := by kernel_rfl
noncomputable def R19e (n : Int) : Res := runF eC6 f19 [] 400 [.int .i64 n] [] [some false, some true]
theorem R19e_ok {n : Int} (h : allP [.p (decide (n < 0) = false), .p (decide (1073741824 ≤ n) = true)]) : OkR (R19e n) := OkR.dem (fl := [false, false]) (by kernel_rfl) (by kernel_rfl) (by kernel_rfl) h
theorem R19e_val {n : Int} : (R19e n).val = .tuple [.nilSlice, .int .i64 11] := by kernel_rfl
theorem R19e_tab {n : Int} : (R19e n).tab = [] := by kernel_rfl
end Go.Abs

set_option linter.unusedVariables false
set_option linter.unusedSimpArgs false
set_option maxRecDepth 8000
namespace Go.Abs
open Go.Proofs.Try
theorem ior_64 {n : Int} (h : 0 ≤ n) : ior n 0 = n := by
  obtain ⟨m, rfl⟩ := Int.eq_ofNat_of_zero_le h
  simp [ior]
theorem ior_16384 {n : Int} (h : 0 ≤ n) (h2 : n < 16384) : ior n 16384 = n + 16384 := ior_add (k := 14) (b := 1) h h2 (by decide)
theorem ior_31 {n : Int} (h : 0 ≤ n) (h2 : n < 1073741824) : ior n 2147483648 = n + 2147483648 := ior_add (k := 30) (b := 2) h h2 (by decide)
theorem len_a {n : Int} (h : 0 ≤ n) (h2 : n < 64) : lenLaw n = [n / 1 % 256] ∧ lenErrLaw n = 0 := by
  unfold lenLaw lenErrLaw; rw [if_neg (by omega), if_pos h2, if_neg (by omega)]; exact ⟨rfl, rfl⟩
theorem len_b {n : Int} (h : 64 ≤ n) (h2 : n < 16384) : lenLaw n = [(n + 16384) / 256 % 256, (n + 16384) / 1 % 256] ∧ lenErrLaw n = 0 := by
  unfold lenLaw lenErrLaw; rw [if_neg (by omega), if_neg (by omega), if_pos h2, if_neg (by omega)]; exact ⟨rfl, rfl⟩
theorem len_c {n : Int} (h : 16384 ≤ n) (h2 : n < 1073741824) : lenLaw n = [(n + 2147483648) / 16777216 % 256, (n + 2147483648) / 65536 % 256, (n + 2147483648) / 256 % 256, (n + 2147483648) / 1 % 256] ∧ lenErrLaw n = 0 := by
  unfold lenLaw lenErrLaw; rw [if_neg (by omega), if_neg (by omega), if_neg (by omega), if_neg (by omega)]; exact ⟨rfl, rfl⟩
theorem len_d {n : Int} (h : n < 0 ∨ 1073741824 ≤ n) : lenLaw n = [] ∧ lenErrLaw n = 11 := by
  unfold lenLaw lenErrLaw; rw [if_pos h, if_pos h]; exact ⟨rfl, rfl⟩
theorem lenLaw_len (n : Int) : (lenLaw n).length ≤ 4 := by
  unfold lenLaw; split
  · simp
  · split
    · simp
    · split <;> simp
def len18Law (n : Int) : AVal := .tuple [.slice 1 0 0 0 (lenLaw n).length (some (lenLaw n).length), .int .i64 (lenErrLaw n)]
def len19Law (n : Int) : AVal := .tuple [.slice 1 0 ((lenLaw n).length - 1) 0 (lenLaw n).length none, .int .i64 (lenErrLaw n)]
def sm18 : Summary := fun args T => match args, T with
  | [.int .i64 n], [] => ⟨[], len18Law n, [some ⟨.ints .u8 (lenLaw n), 0, true, 5⟩]⟩
  | _, _ => fail
theorem nn_i64 {n : Int} (h : 0 ≤ n) (h2 : n < 1073741824) : nonneg .i64 n := ⟨h, by omega⟩
theorem sm18_ok : SmOk prog (fun _ => none) 18 sm18 := by
  intro args T hc
  unfold sm18 at hc ⊢
  split at hc
  · rename_i n
    simp only
    unfold len18Law
    by_cases h0 : n < 0
    · rw [(len_d (.inl h0)).1, (len_d (.inl h0)).2]
      exact small_nil2 .u8 5 (.inl rfl) (small_of (R := R18d n) eC1_ok hmC (f := 18) (fn := f18) (by kernel_rfl) (by kernel_rfl) FnOrc.nil rfl (R18d_ok (by simp [allP, Con.h]; omega)) R18d_val R18d_tab) (Nat.le_refl 0)
    by_cases h1 : 1073741824 ≤ n
    · rw [(len_d (.inr h1)).1, (len_d (.inr h1)).2]
      have d1 : n / 64 ≠ 0 := by omega
      have d2 : n / 16384 ≠ 0 := by omega
      have d3 : n / 1073741824 ≠ 0 := by omega
      exact small_nil2 .u8 5 (.inl rfl) (small_of (R := R18e n) eC1_ok hmC (f := 18) (fn := f18) (by kernel_rfl) (by kernel_rfl) FnOrc.nil rfl (R18e_ok (by simp [allP, Con.h, d1, d2, d3]; omega)) R18e_val R18e_tab) (Nat.le_refl 0)
    have hn := nn_i64 (n := n) (by omega) (by omega)
    by_cases h2 : n < 64
    · have e := len_a (n := n) (by omega) h2
      rw [e.1, e.2]
      have d1 : n / 64 = 0 := by omega
      exact small_of (R := R18a n) eC1_ok hmC (f := 18) (fn := f18) (by kernel_rfl) (by kernel_rfl) FnOrc.nil rfl (R18a_ok (by simp [allP, Con.h, d1, hn]; omega)) R18a_val (by rw [R18a_tab, ior_64 (by omega)])
    by_cases h3 : n < 16384
    · have e := len_b (n := n) (by omega) h3
      rw [e.1, e.2]
      have d1 : n / 64 ≠ 0 := by omega
      have d2 : n / 16384 = 0 := by omega
      exact small_of (R := R18b n) eC1_ok hmC (f := 18) (fn := f18) (by kernel_rfl) (by kernel_rfl) FnOrc.nil rfl (R18b_ok (by simp [allP, Con.h, d1, d2, hn]; omega)) R18b_val (by rw [R18b_tab, ior_16384 (by omega) h3])
    · have e := len_c (n := n) (by omega) (by omega)
      rw [e.1, e.2]
      have d1 : n / 64 ≠ 0 := by omega
      have d2 : n / 16384 ≠ 0 := by omega
      have d3 : n / 1073741824 = 0 := by omega
      exact small_of (R := R18c n) eC1_ok hmC (f := 18) (fn := f18) (by kernel_rfl) (by kernel_rfl) FnOrc.nil rfl (R18c_ok (by simp [allP, Con.h, d1, d2, d3, hn]; omega)) R18c_val (by rw [R18c_tab, ior_31 (by omega) (by omega)])
  · exact absurd hc nofail
def S18c : Summary := callR sm18 []
theorem S18c_ok : SumOk prog (fun _ => none) 18 S18c := callR_ok sm18_ok []
def sm19 : Summary := fun args T => match args, T with
  | [.int .i64 n], [] => ⟨[], len19Law n, [some ⟨.ints .u8 (lenLaw n), (lenLaw n).length - 1, true, 5⟩]⟩
  | _, _ => fail
theorem sm19_ok : SmOk prog (fun _ => none) 19 sm19 := by
  intro args T hc
  unfold sm19 at hc ⊢
  split at hc
  · rename_i n
    simp only
    unfold len19Law
    by_cases h0 : n < 0
    · rw [(len_d (.inl h0)).1, (len_d (.inl h0)).2]
      exact small_nil2 .u8 5 (.inr rfl) (small_of (R := R19d n) eC6_ok hmC (f := 19) (fn := f19) (by kernel_rfl) (by kernel_rfl) FnOrc.nil rfl (R19d_ok (by simp [allP, Con.h]; omega)) R19d_val R19d_tab) (Nat.le_refl 0)
    by_cases h1 : 1073741824 ≤ n
    · rw [(len_d (.inr h1)).1, (len_d (.inr h1)).2]
      exact small_nil2 .u8 5 (.inr rfl) (small_of (R := R19e n) eC6_ok hmC (f := 19) (fn := f19) (by kernel_rfl) (by kernel_rfl) FnOrc.nil rfl (R19e_ok (by simp [allP, Con.h]; omega)) R19e_val R19e_tab) (Nat.le_refl 0)
    by_cases h2 : n < 64
    · have e := len_a (n := n) (by omega) h2
      rw [e.1, e.2]
      exact small_of (R := R19a n) eC6_ok hmC (f := 19) (fn := f19) (by kernel_rfl) (by kernel_rfl) FnOrc.nil rfl (R19a_ok (by simp [allP, Con.h]; omega)) R19a_val R19a_tab
    by_cases h3 : n < 16384
    · have e := len_b (n := n) (by omega) h3
      rw [e.1, e.2]
      exact small_of (R := R19b n) eC6_ok hmC (f := 19) (fn := f19) (by kernel_rfl) (by kernel_rfl) FnOrc.nil rfl (R19b_ok (by simp [allP, Con.h]; omega)) R19b_val R19b_tab
    · have e := len_c (n := n) (by omega) (by omega)
      rw [e.1, e.2]
      exact small_of (R := R19c n) eC6_ok hmC (f := 19) (fn := f19) (by kernel_rfl) (by kernel_rfl) FnOrc.nil rfl (R19c_ok (by simp [allP, Con.h]; omega)) R19c_val R19c_tab
  · exact absurd hc nofail
def S19c : Summary := callR sm19 []
theorem S19c_ok : SumOk prog (fun _ => none) 19 S19c := callR_ok sm19_ok []
/-! ### vectors -/
noncomputable def eC7 : Env := eC0 [(18, S18c)]
theorem eC7_ok : EnvOk eC7 := envOf_ok tysC_ok (SumsOk.cons (fn := f18) S18c_ok (by kernel_rfl) (by kernel_rfl) (by kernel_rfl) trivial)
noncomputable def eC9 : Env := eC0 [(19, S19c)]
theorem eC9_ok : EnvOk eC9 := envOf_ok tysC_ok (SumsOk.cons (fn := f19) S19c_ok (by kernel_rfl) (by kernel_rfl) (by kernel_rfl) trivial)
noncomputable def R21t (zs : List Int) (g off n : Nat) (cp : Option Nat) (ow : Bool) : Res := runF eC9 f21 [] 400 [.slice 1 0 g off n cp] [some ⟨.ints .u8 zs, g, ow, 5⟩] [some false]
theorem R21t_ok {zs : List Int} {g off n : Nat} {cp : Option Nat} {ow : Bool} (h : allP [.eqN g g, .p (decide (65536 < (↑n : Int)) = false), .eqN g g, .eqN ((lenLaw (↑n : Int)).length - 1) ((lenLaw (↑n : Int)).length - 1), .leN (0 + (lenLaw (↑n : Int)).length) (lenLaw (↑n : Int)).length, .leN (addO (lenLaw (↑n : Int)).length n) 140737488355328, .eqN g g, .leN (off + n) zs.length]) : OkR (R21t zs g
 off n cp ow) := OkR.dem (fl := [false, false, false, false, false, false, false, false, true]) (by kernel_rfl) (by kernel_rfl) (by kernel_rfl) h
theorem R21t_val {zs : List Int} {g off n : Nat} {cp : Option Nat} {ow : Bool} : (R21t zs g off n cp ow).val = .tuple [.slice 1 1 ((lenLaw (↑n : Int)).length - 1 + 1) 0 (addO (lenLaw (↑n : Int)).length n) none, .int .i64 0] := by kernel_rfl
theorem R21t_tab {zs : List Int} {g off n : Nat} {cp : Option Nat} {ow : Bool} : (R21t zs g off n cp ow).tab = [some ⟨.ints .u8 zs, g, ow, 5⟩, some ⟨.ints .u8 (List.take (lenLaw (↑n : Int)).length (lenLaw (↑n : Int)) ++ List.take n (dropO off zs)), (lenLaw (↑n : Int)).length - 1 + 1, true, 5⟩] := by kernel_rfl
noncomputable def R21f (zs : List Int) (g off n : Nat) (cp : Option Nat) (ow : Bool) : Res := runF eC9 f21 [] 400 [.slice 1 0 g off n cp] [some ⟨.ints .u8 zs, g, ow, 5⟩] [some true]
theorem R21f_ok {zs : List Int} {g off n : Nat} {cp : Option Nat} {ow : Bool} (h : allP [.eqN g g, .p (decide (65536 < (↑n : Int)) = true)]) : OkR (R21f zs g off n cp ow) := OkR.dem (fl := [false, false]) (by kernel_rfl) (by kernel_rfl) (by kernel_rfl) h
theorem R21f_val {zs : List Int} {g off n : Nat} {cp : Option Nat} {ow : Bool} : (R21f zs g off n cp ow).val = .tuple [.nilSlice, .int .i64 6] := by kernel_rfl
theorem R21f_tab {zs : List Int} {g off n : Nat} {cp : Option Nat} {ow : Bool} : (R21f zs g off n cp ow).tab = [some ⟨.ints .u8 zs, g, ow, 5⟩] := by kernel_rfl
end Go.Abs

set_option linter.unusedVariables false
set_option linter.unusedSimpArgs false
set_option maxRecDepth 8000
namespace Go.Abs
open Go.Proofs.Try
def subLaw (zs : List Int) (off n : Nat) : List Int := (zs.drop off).take n
theorem subLaw_len {zs : List Int} {off n : Nat} (h : off + n ≤ zs.length) : (subLaw zs off n).length = n := by simp [subLaw]; omega
def vecLaw (bs : List Int) : List Int := if bs.length ≤ 65536 then lenLaw bs.length ++ bs else []
def vecErrLaw (n : Nat) : Int := if n ≤ 65536 then 0 else 6
def val21Law (zs : List Int) (off n : Nat) : AVal := .tuple [.slice 1 1 (if n ≤ 65536 then (lenLaw n).length - 1 + 1 else 0) 0 (vecLaw (subLaw zs off n)).length none, .int .i64 (vecErrLaw n)]
def sm21 : Summary := fun args T => match args, T with
  | [.slice 1 0 g off n cp], [some ⟨.ints .u8 zs, g', ow, 5⟩] => ⟨[.eqN g g', .leN (off + n) zs.length], val21Law zs off n, [some ⟨.ints .u8 zs, g', ow, 5⟩, some ⟨.ints .u8 (vecLaw (subLaw zs off n)), if n ≤ 65536 then (lenLaw n).length - 1 + 1 else 0, true, 5⟩]⟩
  | _, _ => fail
theorem sm21_ok : SmOk prog (fun _ => none) 21 sm21 := by
  intro args T hc
  unfold sm21 at hc ⊢
  split at hc
  · rename_i g off n cp zs g' ow
    obtain ⟨h1, h2, _⟩ := hc
    simp only [Con.h] at h1 h2
    subst h1
    have hl := subLaw_len h2
    have hL := lenLaw_len n
    simp only
    unfold val21Law vecErrLaw vecLaw
    rw [hl]
    by_cases h : n ≤ 65536
    · simp only [if_pos h]
      refine small_of (R := R21t zs g off n cp ow) eC9_ok hmC (f := 21) (fn := f21) (by kernel_rfl) (by kernel_rfl) FnOrc.nil rfl (R21t_ok ?_) ?_ ?_
      · simp only [allP, Con.h, addO_eq, List.nil_append, List.length_take, decide_eq_false_iff_not, eq_self, true_and, and_true]
        omega
      · rw [R21t_val, addO_eq, List.length_append, hl]
      · rw [R21t_tab, dropO_eq, List.take_of_length_le (Nat.le_refl _)]
        rfl
    · simp only [if_neg h]
      exact small_nil2 .u8 5 (.inr rfl) (small_of (R := R21f zs g off n cp ow) eC9_ok hmC (f := 21) (fn := f21) (by kernel_rfl) (by kernel_rfl) FnOrc.nil rfl (R21f_ok (by simp [allP, Con.h]; omega)) R21f_val R21f_tab) (by simp)
  · exact absurd hc nofail
def S21c : Summary := callR sm21 []
theorem S21c_ok : SumOk prog (fun _ => none) 21 S21c := callR_ok sm21_ok []
end Go.Abs

set_option linter.unusedVariables false
set_option linter.unusedSimpArgs false
set_option maxRecDepth 100000
set_option maxHeartbeats 4000000
namespace Go.Abs
open Go.Proofs Go.Proofs.Try
end Go.Abs

set_option linter.unusedVariables false
set_option linter.unusedSimpArgs false
set_option maxRecDepth 100000
set_option maxHeartbeats 4000000
namespace Go.Abs
open Go.Proofs Go.Proofs.Try
end Go.Abs

set_option linter.unusedVariables false
set_option linter.unusedSimpArgs false
set_option maxRecDepth 100000
set_option maxHeartbeats 4000000
namespace Go.Abs
open Go.Proofs Go.Proofs.Try
end Go.Abs

set_option linter.unusedVariables false
set_option linter.unusedSimpArgs false
set_option maxRecDepth 100000
set_option maxHeartbeats 4000000
namespace Go.Abs
open Go.Proofs Go.Proofs.Try
end Go.Abs

set_option linter.unusedVariables false
set_option linter.unusedSimpArgs false
set_option maxRecDepth 100000
set_option maxHeartbeats 4000000
namespace Go.Abs
open Go.Proofs Go.Proofs.Try
end Go.Abs

set_option linter.unusedVariables false
set_option linter.unusedSimpArgs false
set_option maxRecDepth 100000
set_option maxHeartbeats 4000000
namespace Go.Abs
open Go.Proofs Go.Proofs.Try
end Go.Abs

set_option linter.unusedVariables false
set_option linter.unusedSimpArgs false
set_option maxRecDepth 8000
namespace Go.Abs
open Go.Proofs Go.Proofs.Try
end Go.Abs

set_option linter.unusedVariables false
set_option linter.unusedSimpArgs false
set_option maxRecDepth 100000
set_option maxHeartbeats 4000000
namespace Go.Abs
open Go.Proofs Go.Proofs.Try
end Go.Abs

set_option linter.unusedVariables false
set_option linter.unusedSimpArgs false
set_option maxRecDepth 100000
set_option maxHeartbeats 4000000
namespace Go.Abs
open Go.Proofs Go.Proofs.Try
end Go.Abs

set_option linter.unusedVariables false
set_option linter.unusedSimpArgs false
set_option maxRecDepth 100000
set_option maxHeartbeats 4000000
namespace Go.Abs
open Go.Proofs Go.Proofs.Try
end Go.Abs

set_option linter.unusedVariables false
set_option linter.unusedSimpArgs false
set_option maxRecDepth 100000
set_option maxHeartbeats 4000000
namespace Go.Abs
open Go.Proofs Go.Proofs.Try
end Go.Abs

set_option linter.unusedVariables false
set_option linter.unusedSimpArgs false
set_option maxRecDepth 100000
set_option maxHeartbeats 4000000
namespace Go.Abs
open Go.Proofs Go.Proofs.Try
end Go.Abs

set_option linter.unusedVariables false
set_option linter.unusedSimpArgs false
set_option maxRecDepth 100000
set_option maxHeartbeats 4000000
namespace Go.Abs
open Go.Proofs Go.Proofs.Try
end Go.Abs

set_option linter.unusedVariables false
set_option linter.unusedSimpArgs false
set_option maxRecDepth 100000
set_option maxHeartbeats 4000000
namespace Go.Abs
open Go.Proofs Go.Proofs.Try
end Go.Abs

set_option linter.unusedVariables false
set_option linter.unusedSimpArgs false
set_option maxRecDepth 100000
set_option maxHeartbeats 4000000
namespace Go.Abs
open Go.Proofs Go.Proofs.Try
end Go.Abs

set_option linter.unusedVariables false
set_option linter.unusedSimpArgs false
set_option maxRecDepth 100000
set_option maxHeartbeats 4000000
namespace Go.Abs
open Go.Proofs Go.Proofs.Try
end Go.Abs

set_option linter.unusedVariables false
set_option linter.unusedSimpArgs false
set_option maxRecDepth 100000
set_option maxHeartbeats 4000000
namespace Go.Abs
open Go.Proofs Go.Proofs.Try
end Go.Abs

set_option linter.unusedVariables false
set_option linter.unusedSimpArgs false
set_option maxRecDepth 100000
set_option maxHeartbeats 4000000
namespace Go.Abs
open Go.Proofs Go.Proofs.Try
end Go.Abs

set_option linter.unusedVariables false
set_option linter.unusedSimpArgs false
set_option maxRecDepth 100000
set_option maxHeartbeats 4000000
namespace Go.Abs
open Go.Proofs Go.Proofs.Try
end Go.Abs

set_option linter.unusedVariables false
set_option linter.unusedSimpArgs false
set_option maxRecDepth 100000
set_option maxHeartbeats 4000000
namespace Go.Abs
open Go.Proofs Go.Proofs.Try
/-! ### CodecReads: the law -/
theorem AWp.cutTG {E : Env} (hE : EnvOk E) (hm : E.P.follows .mixedOrders = true) {n k m : Nat} {f : Nat} {post : AExit → Fm → Tab → Prop} {c : Code} (j : Nat) {fm : Fm} {T : Tab} {ds : List (Option Bool)} {slots : List Nat} {o : Out} (ho : Abs.trim k m slots (runs E n ⟨k, []⟩ f (frontC j c) fm T ds) = o) (hc : Ok o) (hx : o.ex = .normal) (h : AWp E n k (backC j c) o.fm o.tab post) : AWp E n k c fm T post := by
  generalize hr : runs E n ⟨k, []⟩ f (frontC j c) fm T ds = r at ho
  obtain ⟨cs, ex, fm1, T1, ds1⟩ := r
  unfold Abs.trim at ho
  simp only at ho
  split at ho
  · rename_i g hp hb
    subst ho
    exact AWp.cut hE hm j hr ⟨hc.h⟩ hx (AWp.enter hp hb h)
  · subst ho
    exact absurd hc.h failO_no
end Go.Abs

set_option linter.unusedVariables false
set_option linter.unusedSimpArgs false
set_option maxRecDepth 100000
namespace Go.Abs
open Go.Proofs Go.Proofs.Try
end Go.Abs

set_option linter.unusedVariables false
set_option linter.unusedSimpArgs false
set_option maxRecDepth 100000
set_option maxHeartbeats 4000000
namespace Go.Abs
open Go.Proofs Go.Proofs.Try
end Go.Abs

set_option linter.unusedVariables false
set_option linter.unusedSimpArgs false
set_option maxRecDepth 100000
set_option maxHeartbeats 4000000
namespace Go.Abs
open Go.Proofs Go.Proofs.Try
end Go.Abs

set_option linter.unusedVariables false
set_option linter.unusedSimpArgs false
set_option maxRecDepth 100000
set_option maxHeartbeats 4000000
namespace Go.Abs
open Go.Proofs Go.Proofs.Try
end Go.Abs

set_option linter.unusedVariables false
set_option linter.unusedSimpArgs false
set_option maxRecDepth 100000
set_option maxHeartbeats 4000000
namespace Go.Abs
open Go.Proofs Go.Proofs.Try
end Go.Abs

set_option linter.unusedVariables false
set_option linter.unusedSimpArgs false
set_option maxRecDepth 100000
namespace Go.Abs
open Go.Proofs Go.Proofs.Try
end Go.Abs

set_option linter.unusedVariables false
set_option linter.unusedSimpArgs false
set_option maxRecDepth 100000
set_option maxHeartbeats 4000000
namespace Go.Abs
open Go.Proofs Go.Proofs.Try
end Go.Abs

set_option linter.unusedVariables false
set_option linter.unusedSimpArgs false
set_option maxRecDepth 100000
set_option maxHeartbeats 4000000
namespace Go.Abs
open Go.Proofs Go.Proofs.Try
end Go.Abs

set_option linter.unusedVariables false
set_option linter.unusedSimpArgs false
set_option maxRecDepth 100000
set_option maxHeartbeats 4000000
namespace Go.Abs
open Go.Proofs Go.Proofs.Try
end Go.Abs

set_option linter.unusedVariables false
set_option linter.unusedSimpArgs false
set_option maxRecDepth 100000
set_option maxHeartbeats 4000000
namespace Go.Abs
open Go.Proofs Go.Proofs.Try
/-! ### Vectors: one behind the other -/
def vec1Law (bs : List Int) : List Int := lenLaw bs.length ++ bs
def jnVLaw : List (List Int) → List Int
  | [] => []
  | b :: Z => vec1Law b ++ jnVLaw Z
theorem jnVLaw_app : ∀ (Y Z : List (List Int)), jnVLaw (Y ++ Z) = jnVLaw Y ++ jnVLaw Z
  | [], Z => rfl
  | b :: Y, Z => by rw [List.cons_append, jnVLaw, jnVLaw, jnVLaw_app Y Z, List.append_assoc]
theorem jnVLaw_step {Y : List (List Int)} {k : Nat} (h : k < Y.length) : jnVLaw (Y.take (k + 1)) = jnVLaw (Y.take k) ++ (lenLaw (Y.getD k []).length ++ Y.getD k []) := by
  have e : Y.take (k + 1) = Y.take k ++ [Y.getD k []] := by rw [List.take_add_one, List.getD_eq_getElem?_getD, List.getElem?_eq_getElem h]; rfl
  rw [e, jnVLaw_app]
  simp [jnVLaw, vec1Law]
theorem jnVLaw_le (Y : List (List Int)) (k : Nat) : (jnVLaw (Y.take k)).length ≤ (jnVLaw Y).length := by
  have e : jnVLaw Y = jnVLaw (Y.take k) ++ jnVLaw (Y.drop k) := by rw [← jnVLaw_app, List.take_append_drop]
  rw [e, List.length_append]; omega
def FitZLaw (Y : List (List Int)) : Prop := ∀ b ∈ Y, b.length ≤ 65536
instance (Y : List (List Int)) : Decidable (FitZLaw Y) := by unfold FitZLaw; exact inferInstance
def jnLaw (Y : List (List Int)) : List Int := if FitZLaw Y then jnVLaw Y else []
def jnErrLaw (Y : List (List Int)) : Int := if FitZLaw Y then 0 else 6
def jnGLaw (Y : List (List Int)) : Nat := if FitZLaw Y then 2 * Y.length else 0
theorem fit_get {Y : List (List Int)} (h : FitZLaw Y) (k : Nat) : (Y.getD k []).length ≤ 65536 := by
  rw [List.getD_eq_getElem?_getD]
  rcases Nat.lt_or_ge k Y.length with hk | hk
  · rw [List.getElem?_eq_getElem hk]; exact h _ (List.getElem_mem hk)
  · rw [List.getElem?_eq_none hk]; exact Nat.zero_le _
theorem fit_first : ∀ {Y : List (List Int)}, ¬ FitZLaw Y → ∃ k, k < Y.length ∧ 65536 < (Y.getD k []).length ∧ ∀ i, i < k → (Y.getD i []).length ≤ 65536
  | [], h => absurd (fun b hb => by cases hb) h
  | b :: Y, h => by
    by_cases hb : b.length ≤ 65536
    · have : ¬ FitZLaw Y := fun hy => h (fun c hc => by exact (List.mem_cons.1 hc).elim (fun e => e ▸ hb) (hy c))
      obtain ⟨k, h1, h2, h3⟩ := fit_first this
      refine ⟨k + 1, by simpa using h1, by simpa using h2, fun i hi => ?_⟩
      cases i with
      | zero => simpa using hb
      | succ i => simpa using h3 i (by omega)
    · exact ⟨0, by simp, by simpa using hb, fun i hi => by omega⟩
noncomputable def c10a : Code := match backC 2 (bodyOf f10) with | .seq (.seq a _) _ => a | c => c
noncomputable def c10r : Code := match backC 2 (bodyOf f10) with | .seq _ c => c | c => c
theorem split10 : backC 2 (bodyOf f10) = .seq (.seq c10a (.block 0 (.loop (roundOf 0 f10)))) c10r := by kernel_rfl
noncomputable def N10 (z : List Int) (Z : List (List Int)) (gx gF : Nat) (cp : Option Nat) (owX owF : Bool) (eX eF : TypeId) : Out := trim 2 2 [0,4] (runs eC7 31 ⟨2, []⟩ 400 (frontC 2 (bodyOf f10)) [(0, .slice 1 0 gx 0 (Z.length + 1) cp)] [some ⟨.frows 1 gF (z :: Z) [], gx, owX, eX⟩, some ⟨.fam (z :: Z), gF, owF, eF⟩] [])
theorem N10_ok {z : List Int} {Z : List (List Int)} {gx gF : Nat} {cp : Option Nat} {owX owF : Bool} {eX eF : TypeId} (h : allP []) : Ok (N10 z Z gx gF cp owX owF eX eF) := Ok.dem (fl := []) (by kernel_rfl) (by kernel_rfl) (by kernel_rfl) h
theorem N10_ex {z : List Int} {Z : List (List Int)} {gx gF : Nat} {cp : Option Nat} {owX owF : Bool} {eX eF : TypeId} : (N10 z Z gx gF cp owX owF eX eF).ex = .normal := by kernel_rfl
theorem N10_fm {z : List Int} {Z : List (List Int)} {gx gF : Nat} {cp : Option Nat} {owX owF : Bool} {eX eF : TypeId} : (N10 z Z gx gF cp owX owF eX eF).fm = [(0, .slice 1 0 gx 0 (Z.length + 1) cp), (4, .nilSlice)] := by kernel_rfl
theorem N10_tab {z : List Int} {Z : List (List Int)} {gx gF : Nat} {cp : Option Nat} {owX owF : Bool} {eX eF : TypeId} : (N10 z Z gx gF cp owX owF eX eF).tab = [some ⟨AVal.frows 1 gF (z :: Z) [], gx, owX, eX⟩, some ⟨AVal.fam (z :: Z), gF, owF, eF⟩] := by kernel_rfl
noncomputable def I10 (z : List Int) (Z : List (List Int)) (gx gF : Nat) (cp : Option Nat) (owX owF : Bool) (eX eF : TypeId) : Out := trim 2 3 [4,9,10,11] (run eC7 31 ⟨2, []⟩ 400 c10a [(0, .slice 1 0 gx 0 (Z.length + 1) cp), (4, .slice 1 2 0 0 0 none)] [some ⟨.frows 1 gF (z :: Z) [], gx, owX, eX⟩, some ⟨.fam (z :: Z), gF, owF, eF⟩, some ⟨.ints .u8 [], 0, true, 5⟩] [])
theorem I10_ok {z : List Int} {Z : List (List Int)} {gx gF : Nat} {cp : Option Nat} {owX owF : Bool} {eX eF : TypeId} (h : allP [.eqN gx gx]) : Ok (I10 z Z gx gF cp owX owF eX eF) := Ok.dem (fl := [false]) (by kernel_rfl) (by kernel_rfl) (by kernel_rfl) h
theorem I10_ex {z : List Int} {Z : List (List Int)} {gx gF : Nat} {cp : Option Nat} {owX owF : Bool} {eX eF : TypeId} : (I10 z Z gx gF cp owX owF eX eF).ex = .normal := by kernel_rfl
theorem I10_fm {z : List Int} {Z : List (List Int)} {gx gF : Nat} {cp : Option Nat} {owX owF : Bool} {eX eF : TypeId} : (I10 z Z gx gF cp owX owF eX eF).fm = [(4, .slice 1 2 0 0 0 none), (9, .slice 1 0 gx 0 (Z.length + 1) cp), (10, .int .i64 (↑(Z.length + 1) : Int)), (11, .int .i64 0)] := by kernel_rfl
theorem I10_tab {z : List Int} {Z : List (List Int)} {gx gF : Nat} {cp : Option Nat} {owX owF : Bool} {eX eF : TypeId} : (I10 z Z gx gF cp owX owF eX eF).tab = [some ⟨AVal.frows 1 gF (z :: Z) [], gx, owX, eX⟩, some ⟨AVal.fam (z :: Z), gF, owF, eF⟩, some ⟨.ints .u8 [], 0, true, 5⟩] := by kernel_rfl
noncomputable def A10 (z : List Int) (Z : List (List Int)) (X0 : List Int) (i gx gF m : Nat) (cp : Option Nat) (owX owF : Bool) (eX eF : TypeId) : Out := trim 2 3 [4,9,10,11] (run eC7 31 ⟨2, []⟩ 400 (roundOf 0 f10) [(4, .slice 1 2 m 0 X0.length none), (9, .slice 1 0 gx 0 (Z.length + 1) cp), (10, .int .i64 ((Z.length + 1 : Nat) : Int)), (11, .int .i64 (i : Nat))] [some ⟨.frows 1 gF (z :: Z) [], gx, owX, eX⟩, some ⟨.fam (z :: Z), gF, owF, eF⟩, some ⟨.ints .u8 X0, m, true, 5⟩] [some true, some false])
theorem A10_ok {z : List Int} {Z : List (List Int)} {X0 : List Int} {i gx gF m : Nat} {cp : Option Nat} {owX owF : Bool} {eX eF : TypeId} (h : allP [.p (decide ((↑i : Int) < (↑(Z.length + 1) : Int)) = true), .eqN gx gx, .leI 0 (↑i : Int), .leI ((↑i : Int) + 1) (↑(Z.length + 1) : Int), .eqN gx gx, .leN (i + 1) (z :: Z).length, .eqN gF gF, .p (decide (65536 < (↑((z :: Z).getD i []).length : Int)) =
 false), .eqN gF gF, .eqN m m, .leN (0 + X0.length) X0.length, .leN (addO X0.length (lenLaw (↑((z :: Z).getD i []).length : Int)).length) 140737488355328, .leN (0 + (lenLaw (↑((z :: Z).getD i []).length : Int)).length) (lenLaw (↑((z :: Z).getD i []).length : Int)).length, .eqN (m + 1) (m + 1), .leN (0 + addO X0.length (lenLaw (↑((z :: Z).getD i []).length : Int)).length) (List.take X0.length X0 ++
 List.take (lenLaw (↑((z :: Z).getD i []).length : Int)).length (lenLaw (↑((z :: Z).getD i []).length : Int))).length, .leN (addO (addO X0.length (lenLaw (↑((z :: Z).getD i []).length : Int)).length) ((z :: Z).getD i []).length) 140737488355328, .eqN gF gF, .rng (-9223372036854775808) ((↑i : Int) + 1) 9223372036854775807]) : Ok (A10 z Z X0 i gx gF m cp owX owF eX eF) := Ok.dem (fl := bitsF 20 20480)
 (by kernel_rfl) (by kernel_rfl) (by kernel_rfl) h
theorem A10_ex {z : List Int} {Z : List (List Int)} {X0 : List Int} {i gx gF m : Nat} {cp : Option Nat} {owX owF : Bool} {eX eF : TypeId} : (A10 z Z X0 i gx gF m cp owX owF eX eF).ex = .normal := by kernel_rfl
theorem A10_fm {z : List Int} {Z : List (List Int)} {X0 : List Int} {i gx gF m : Nat} {cp : Option Nat} {owX owF : Bool} {eX eF : TypeId} : (A10 z Z X0 i gx gF m cp owX owF eX eF).fm = [(4, .slice 1 2 (m + 1 + 1) 0 (addO (addO X0.length (lenLaw (↑((z :: Z).getD i []).length : Int)).length) ((z :: Z).getD i []).length) none), (9, .slice 1 0 gx 0 (Z.length + 1) cp), (10, .int .i64 (↑(Z.length + 1) :
 Int)), (11, .int .i64 ((↑i : Int) + 1))] := by kernel_rfl
theorem A10_tab {z : List Int} {Z : List (List Int)} {X0 : List Int} {i gx gF m : Nat} {cp : Option Nat} {owX owF : Bool} {eX eF : TypeId} : (A10 z Z X0 i gx gF m cp owX owF eX eF).tab = [some ⟨AVal.frows 1 gF (z :: Z) [], gx, owX, eX⟩, some ⟨AVal.fam (z :: Z), gF, owF, eF⟩, some ⟨.ints .u8 (List.take (addO X0.length (lenLaw (↑((z :: Z).getD i []).length : Int)).length) (List.take X0.length X0 ++
 List.take (lenLaw (↑((z :: Z).getD i []).length : Int)).length (lenLaw (↑((z :: Z).getD i []).length : Int))) ++ (z :: Z).getD i []), m + 1 + 1, true, 5⟩] := by kernel_rfl
noncomputable def B10 (z : List Int) (Z : List (List Int)) (X0 : List Int) (i gx gF m : Nat) (cp : Option Nat) (owX owF : Bool) (eX eF : TypeId) : Out := trim 2 2 [2,3] (run eC7 31 ⟨2, []⟩ 400 (roundOf 0 f10) [(4, .slice 1 2 m 0 X0.length none), (9, .slice 1 0 gx 0 (Z.length + 1) cp), (10, .int .i64 ((Z.length + 1 : Nat) : Int)), (11, .int .i64 (i : Nat))] [some ⟨.frows 1 gF (z :: Z) [], gx, owX, eX⟩, some ⟨.fam (z :: Z), gF, owF, eF⟩, some ⟨.ints .u8 X0, m, true, 5⟩] [some true, some true])
theorem B10_ok {z : List Int} {Z : List (List Int)} {X0 : List Int} {i gx gF m : Nat} {cp : Option Nat} {owX owF : Bool} {eX eF : TypeId} (h : allP [.p (decide ((↑i : Int) < (↑(Z.length + 1) : Int)) = true), .eqN gx gx, .leI 0 (↑i : Int), .leI ((↑i : Int) + 1) (↑(Z.length + 1) : Int), .eqN gx gx, .leN (i + 1) (z :: Z).length, .eqN gF gF, .p (decide (65536 < (↑((z :: Z).getD i []).length : Int)) =
 true)]) : Ok (B10 z Z X0 i gx gF m cp owX owF eX eF) := Ok.dem (fl := [false, false, false, false, false, false, false, false]) (by kernel_rfl) (by kernel_rfl) (by kernel_rfl) h
theorem B10_ex {z : List Int} {Z : List (List Int)} {X0 : List Int} {i gx gF m : Nat} {cp : Option Nat} {owX owF : Bool} {eX eF : TypeId} : (B10 z Z X0 i gx gF m cp owX owF eX eF).ex = .ret := by kernel_rfl
theorem B10_fm {z : List Int} {Z : List (List Int)} {X0 : List Int} {i gx gF m : Nat} {cp : Option Nat} {owX owF : Bool} {eX eF : TypeId} : (B10 z Z X0 i gx gF m cp owX owF eX eF).fm = [(2, .nilSlice), (3, .int .i64 6)] := by kernel_rfl
theorem B10_tab {z : List Int} {Z : List (List Int)} {X0 : List Int} {i gx gF m : Nat} {cp : Option Nat} {owX owF : Bool} {eX eF : TypeId} : (B10 z Z X0 i gx gF m cp owX owF eX eF).tab = [some ⟨AVal.frows 1 gF (z :: Z) [], gx, owX, eX⟩, some ⟨AVal.fam (z :: Z), gF, owF, eF⟩] := by kernel_rfl
noncomputable def D10 (z : List Int) (Z : List (List Int)) (X0 : List Int) (i gx gF m : Nat) (cp : Option Nat) (owX owF : Bool) (eX eF : TypeId) : Out := trim 2 3 [4] (run eC7 31 ⟨2, []⟩ 400 (roundOf 0 f10) [(4, .slice 1 2 m 0 X0.length none), (9, .slice 1 0 gx 0 (Z.length + 1) cp), (10, .int .i64 ((Z.length + 1 : Nat) : Int)), (11, .int .i64 (i : Nat))] [some ⟨.frows 1 gF (z :: Z) [], gx, owX, eX⟩, some ⟨.fam (z :: Z), gF, owF, eF⟩, some ⟨.ints .u8 X0, m, true, 5⟩] [some false])
theorem D10_ok {z : List Int} {Z : List (List Int)} {X0 : List Int} {i gx gF m : Nat} {cp : Option Nat} {owX owF : Bool} {eX eF : TypeId} (h : allP [.p (decide ((↑i : Int) < (↑(Z.length + 1) : Int)) = false)]) : Ok (D10 z Z X0 i gx gF m cp owX owF eX eF) := Ok.dem (fl := [false]) (by kernel_rfl) (by kernel_rfl) (by kernel_rfl) h
theorem D10_ex {z : List Int} {Z : List (List Int)} {X0 : List Int} {i gx gF m : Nat} {cp : Option Nat} {owX owF : Bool} {eX eF : TypeId} : (D10 z Z X0 i gx gF m cp owX owF eX eF).ex = .exit 0 := by kernel_rfl
theorem D10_fm {z : List Int} {Z : List (List Int)} {X0 : List Int} {i gx gF m : Nat} {cp : Option Nat} {owX owF : Bool} {eX eF : TypeId} : (D10 z Z X0 i gx gF m cp owX owF eX eF).fm = [(4, .slice 1 2 m 0 X0.length none)] := by kernel_rfl
theorem D10_tab {z : List Int} {Z : List (List Int)} {X0 : List Int} {i gx gF m : Nat} {cp : Option Nat} {owX owF : Bool} {eX eF : TypeId} : (D10 z Z X0 i gx gF m cp owX owF eX eF).tab = [some ⟨AVal.frows 1 gF (z :: Z) [], gx, owX, eX⟩, some ⟨AVal.fam (z :: Z), gF, owF, eF⟩, some ⟨.ints .u8 X0, m, true, 5⟩] := by kernel_rfl
noncomputable def Z10 (z : List Int) (Z : List (List Int)) (X0 : List Int) (i gx gF m : Nat) (cp : Option Nat) (owX owF : Bool) (eX eF : TypeId) : Out := trim 2 3 [2,3] (run eC7 31 ⟨2, []⟩ 400 c10r [(4, .slice 1 2 m 0 X0.length none)] [some ⟨.frows 1 gF (z :: Z) [], gx, owX, eX⟩, some ⟨.fam (z :: Z), gF, owF, eF⟩, some ⟨.ints .u8 X0, m, true, 5⟩] [])
theorem Z10_ok {z : List Int} {Z : List (List Int)} {X0 : List Int} {i gx gF m : Nat} {cp : Option Nat} {owX owF : Bool} {eX eF : TypeId} (h : allP []) : Ok (Z10 z Z X0 i gx gF m cp owX owF eX eF) := Ok.dem (fl := []) (by kernel_rfl) (by kernel_rfl) (by kernel_rfl) h
theorem Z10_ex {z : List Int} {Z : List (List Int)} {X0 : List Int} {i gx gF m : Nat} {cp : Option Nat} {owX owF : Bool} {eX eF : TypeId} : (Z10 z Z X0 i gx gF m cp owX owF eX eF).ex = .ret := by kernel_rfl
theorem Z10_fm {z : List Int} {Z : List (List Int)} {X0 : List Int} {i gx gF m : Nat} {cp : Option Nat} {owX owF : Bool} {eX eF : TypeId} : (Z10 z Z X0 i gx gF m cp owX owF eX eF).fm = [(2, .slice 1 2 m 0 X0.length none), (3, .int .i64 0)] := by kernel_rfl
theorem Z10_tab {z : List Int} {Z : List (List Int)} {X0 : List Int} {i gx gF m : Nat} {cp : Option Nat} {owX owF : Bool} {eX eF : TypeId} : (Z10 z Z X0 i gx gF m cp owX owF eX eF).tab = [some ⟨AVal.frows 1 gF (z :: Z) [], gx, owX, eX⟩, some ⟨AVal.fam (z :: Z), gF, owF, eF⟩, some ⟨.ints .u8 X0, m, true, 5⟩] := by kernel_rfl
end Go.Abs

set_option linter.unusedVariables false
set_option linter.unusedSimpArgs false
set_option maxRecDepth 100000
set_option maxHeartbeats 4000000
namespace Go.Abs
open Go.Proofs Go.Proofs.Try
/-! ### codec.Vectors -/
theorem round10 {z : List Int} {Z : List (List Int)} {gx gF : Nat} {cp : Option Nat} {owX owF : Bool} {eX eF : TypeId} (k : Nat) (hk : k < (z :: Z).length) (hf : ((z :: Z).getD k []).length ≤ 65536) (hn : (jnVLaw (z :: Z)).length ≤ 140737488355328) (hL : Z.length + 1 ≤ 140737488355328) :
    To eC7 31 2 (roundOf 0 f10) [(4, .slice 1 2 (2 * k) 0 (jnVLaw ((z :: Z).take k)).length none), (9, .slice 1 0 gx 0 (Z.length + 1) cp), (10, .int .i64 ((Z.length + 1 : Nat) : Int)), (11, .int .i64 (k : Nat))] [some ⟨.frows 1 gF (z :: Z) [], gx, owX, eX⟩, some ⟨.fam (z :: Z), gF, owF, eF⟩, some ⟨.ints .u8 (jnVLaw ((z :: Z).take k)), 2 * k, true, 5⟩] .normal [(4, .slice 1 2 (2 * (k + 1)) 0 (jnVLaw ((z :: Z).take (k + 1))).length none), (9, .slice 1 0 gx 0 (Z.length + 1) cp), (10, .int .i64 ((Z.length + 1 : Nat) : Int)), (11, .int .i64 (k + 1 : Nat))] [some ⟨.frows 1 gF (z :: Z) [], gx, owX, eX⟩, some ⟨.fam (z :: Z), gF, owF, eF⟩, some ⟨.ints .u8 (jnVLaw ((z :: Z).take (k + 1))), 2 * (k + 1), true, 5⟩] := by
  have hs := jnVLaw_step (Y := (z :: Z)) hk
  have hle := jnVLaw_le (z :: Z) (k + 1)
  have hl : (jnVLaw ((z :: Z).take (k + 1))).length = (jnVLaw ((z :: Z).take k)).length + (lenLaw ((z :: Z).getD k []).length).length + ((z :: Z).getD k []).length := by rw [hs]; simp [Nat.add_assoc]
  have h1 : (z :: Z).length = Z.length + 1 := rfl
  refine To.of (o := A10 z Z (jnVLaw ((z :: Z).take k)) k gx gF (2 * k) cp owX owF eX eF) eC7_ok hmC (Nat.le_refl 2) OrcOk.nil rfl (A10_ok ?_) A10_ex ?_ ?_
  · simp only [allP, Con.h, addO_eq, List.length_take, List.length_append, decide_eq_true_eq, decide_eq_false_iff_not, eq_self, true_and, and_true]
    generalize ((z :: Z).getD k []) = row at hf hl ⊢
    omega
  · rw [A10_fm]
    simp only [addO_eq, ← hl]
    rfl
  · rw [A10_tab]
    have e : List.take (addO (jnVLaw ((z :: Z).take k)).length (lenLaw ((z :: Z).getD k []).length).length) (List.take (jnVLaw ((z :: Z).take k)).length (jnVLaw ((z :: Z).take k)) ++ List.take (lenLaw ((z :: Z).getD k []).length).length (lenLaw ((z :: Z).getD k []).length)) ++ (z :: Z).getD k [] = jnVLaw ((z :: Z).take (k + 1)) := by
      rw [addO_eq, List.take_length, List.take_length, List.take_of_length_le (by rw [List.length_append]; exact Nat.le_refl _), hs, List.append_assoc]
    rw [e]
    rfl
theorem vec10a {z : List Int} {Z : List (List Int)} {gx gF : Nat} {cp : Option Nat} {owX owF : Bool} {eX eF : TypeId} (hf : FitZLaw (z :: Z)) (hn : (jnVLaw (z :: Z)).length ≤ 140737488355328) (hL : Z.length + 1 ≤ 140737488355328) :
    Small prog (fun _ => none) 10 [.slice 1 0 gx 0 (Z.length + 1) cp] [some ⟨.frows 1 gF (z :: Z) [], gx, owX, eX⟩, some ⟨.fam (z :: Z), gF, owF, eF⟩] (.tuple [.slice 1 2 (2 * (Z.length + 1)) 0 (jnVLaw (z :: Z)).length none, .int .i64 0]) [some ⟨.frows 1 gF (z :: Z) [], gx, owX, eX⟩, some ⟨.fam (z :: Z), gF, owF, eF⟩, some ⟨.ints .u8 (jnVLaw (z :: Z)), 2 * (Z.length + 1), true, 5⟩] := by
  refine small_of_awp eC7_ok (f := 10) (fn := f10) (c := bodyOf f10) (by kernel_rfl) (by kernel_rfl) (by kernel_rfl) ?_
  show AWp eC7 31 2 (bodyOf f10) [(0, .slice 1 0 gx 0 (Z.length + 1) cp)] [some ⟨.frows 1 gF (z :: Z) [], gx, owX, eX⟩, some ⟨.fam (z :: Z), gF, owF, eF⟩] _
  refine AWp.cutTG eC7_ok hmC (m := 2) 2 (o := N10 z Z gx gF cp owX owF eX eF) rfl (N10_ok trivial) N10_ex ?_
  rw [split10, N10_fm, N10_tab]
  refine AWp.nilTo [(0, .slice 1 0 gx 0 (Z.length + 1) cp), (4, .slice 1 2 0 0 0 none)] .u8 5 (fun t v hv => by
      simp only [look] at hv ⊢
      repeat' split at hv
      all_goals first
        | (injection hv with hv; subst hv; simp_all; done)
        | (simp_all; done)) ?_
  refine AWp.seq (AWp.seq (AWp.mono (To.of (o := I10 z Z gx gF cp owX owF eX eF) eC7_ok hmC (Nat.le_refl 2) OrcOk.nil rfl (I10_ok (by simp only [allP, Con.h, and_true])) I10_ex I10_fm I10_tab) fun ex fm T hP => ?_))
  obtain ⟨rfl, rfl, rfl⟩ := hP
  refine AWp.mono (To.rounds (E := eC7) (n := 31) (k := 2) (id := 0) (c := roundOf 0 f10) (fun k : Nat => [(4, .slice 1 2 (2 * k) 0 (jnVLaw ((z :: Z).take k)).length none), (9, .slice 1 0 gx 0 (Z.length + 1) cp), (10, .int .i64 ((Z.length + 1 : Nat) : Int)), (11, .int .i64 (k : Nat))]) (fun k => [some ⟨.frows 1 gF (z :: Z) [], gx, owX, eX⟩, some ⟨.fam (z :: Z), gF, owF, eF⟩, some ⟨.ints .u8 (jnVLaw ((z :: Z).take k)), 2 * k, true, 5⟩]) (Z.length + 1) (fun k hk => round10 k hk (fit_get hf k) hn hL) (fm' := [(4, .slice 1 2 (2 * (Z.length + 1)) 0 (jnVLaw (z :: Z)).length none)]) (T' := [some ⟨.frows 1 gF (z :: Z) [], gx, owX, eX⟩, some ⟨.fam (z :: Z), gF, owF, eF⟩, some ⟨.ints .u8 (jnVLaw (z :: Z)), 2 * (Z.length + 1), true, 5⟩]) ?_) fun ex fm T hP => ?_
  · have e : (z :: Z).take (Z.length + 1) = (z :: Z) := List.take_of_length_le (Nat.le_refl _)
    simp only [e]
    exact To.of (o := D10 z Z (jnVLaw (z :: Z)) (Z.length + 1) gx gF (2 * (Z.length + 1)) cp owX owF eX eF) eC7_ok hmC (Nat.le_refl 2) OrcOk.nil rfl (D10_ok (by simp [allP, Con.h])) D10_ex D10_fm D10_tab
  obtain ⟨rfl, rfl, rfl⟩ := hP
  refine AWp.mono (To.of (o := Z10 z Z (jnVLaw (z :: Z)) 0 gx gF (2 * (Z.length + 1)) cp owX owF eX eF) eC7_ok hmC (Nat.le_refl 2) OrcOk.nil rfl (Z10_ok trivial) Z10_ex Z10_fm Z10_tab) fun ex fm T hP => ?_
  obtain ⟨rfl, rfl, rfl⟩ := hP
  exact ⟨.inr rfl, rfl, [], [.slice 1 2 (2 * (Z.length + 1)) 0 (jnVLaw (z :: Z)).length none, .int .i64 0], rfl, trivial, rfl⟩
theorem vec10b {z : List Int} {Z : List (List Int)} {gx gF : Nat} {cp : Option Nat} {owX owF : Bool} {eX eF : TypeId} (hf : ¬ FitZLaw (z :: Z)) (hn : (jnVLaw (z :: Z)).length ≤ 140737488355328) (hL : Z.length + 1 ≤ 140737488355328) :
    Small prog (fun _ => none) 10 [.slice 1 0 gx 0 (Z.length + 1) cp] [some ⟨.frows 1 gF (z :: Z) [], gx, owX, eX⟩, some ⟨.fam (z :: Z), gF, owF, eF⟩] (.tuple [.nilSlice, .int .i64 6]) [some ⟨.frows 1 gF (z :: Z) [], gx, owX, eX⟩, some ⟨.fam (z :: Z), gF, owF, eF⟩] := by
  obtain ⟨j, hj, hbig, hfit⟩ := fit_first hf
  refine small_of_awp eC7_ok (f := 10) (fn := f10) (c := bodyOf f10) (by kernel_rfl) (by kernel_rfl) (by kernel_rfl) ?_
  show AWp eC7 31 2 (bodyOf f10) [(0, .slice 1 0 gx 0 (Z.length + 1) cp)] [some ⟨.frows 1 gF (z :: Z) [], gx, owX, eX⟩, some ⟨.fam (z :: Z), gF, owF, eF⟩] _
  refine AWp.cutTG eC7_ok hmC (m := 2) 2 (o := N10 z Z gx gF cp owX owF eX eF) rfl (N10_ok trivial) N10_ex ?_
  rw [split10, N10_fm, N10_tab]
  refine AWp.nilTo [(0, .slice 1 0 gx 0 (Z.length + 1) cp), (4, .slice 1 2 0 0 0 none)] .u8 5 (fun t v hv => by
      simp only [look] at hv ⊢
      repeat' split at hv
      all_goals first
        | (injection hv with hv; subst hv; simp_all; done)
        | (simp_all; done)) ?_
  refine AWp.seq (AWp.seq (AWp.mono (To.of (o := I10 z Z gx gF cp owX owF eX eF) eC7_ok hmC (Nat.le_refl 2) OrcOk.nil rfl (I10_ok (by simp only [allP, Con.h, and_true])) I10_ex I10_fm I10_tab) fun ex fm T hP => ?_))
  obtain ⟨rfl, rfl, rfl⟩ := hP
  refine AWp.mono (To.roundsRet (E := eC7) (n := 31) (k := 2) (id := 0) (c := roundOf 0 f10) (fun k : Nat => [(4, .slice 1 2 (2 * k) 0 (jnVLaw ((z :: Z).take k)).length none), (9, .slice 1 0 gx 0 (Z.length + 1) cp), (10, .int .i64 ((Z.length + 1 : Nat) : Int)), (11, .int .i64 (k : Nat))]) (fun k => [some ⟨.frows 1 gF (z :: Z) [], gx, owX, eX⟩, some ⟨.fam (z :: Z), gF, owF, eF⟩, some ⟨.ints .u8 (jnVLaw ((z :: Z).take k)), 2 * k, true, 5⟩]) j (fun k hk => round10 k (by omega) (hfit k hk) hn hL)
      (To.of (o := B10 z Z (jnVLaw ((z :: Z).take j)) j gx gF (2 * j) cp owX owF eX eF) eC7_ok hmC (Nat.le_refl 2) OrcOk.nil rfl (B10_ok ?_) B10_ex B10_fm B10_tab) (by intro h; cases h) (by intro h; cases h)) fun ex fm T hP => ?_
  · have h1 : (z :: Z).length = Z.length + 1 := rfl
    simp only [allP, Con.h, decide_eq_true_eq, eq_self, true_and, and_true]
    generalize ((z :: Z).getD j []) = row at hbig ⊢
    omega
  obtain ⟨rfl, rfl, rfl⟩ := hP
  exact ⟨.inr rfl, rfl, [], [.nilSlice, .int .i64 6], rfl, trivial, rfl⟩
theorem vec10 {z : List Int} {Z : List (List Int)} {gx gF : Nat} {cp : Option Nat} {owX owF : Bool} {eX eF : TypeId} (hn : (jnVLaw (z :: Z)).length ≤ 140737488355328) (hL : Z.length + 1 ≤ 140737488355328) :
    Small prog (fun _ => none) 10 [.slice 1 0 gx 0 (Z.length + 1) cp] [some ⟨.frows 1 gF (z :: Z) [], gx, owX, eX⟩, some ⟨.fam (z :: Z), gF, owF, eF⟩] (.tuple [.slice 1 2 (jnGLaw (z :: Z)) 0 (jnLaw (z :: Z)).length none, .int .i64 (jnErrLaw (z :: Z))]) [some ⟨.frows 1 gF (z :: Z) [], gx, owX, eX⟩, some ⟨.fam (z :: Z), gF, owF, eF⟩, some ⟨.ints .u8 (jnLaw (z :: Z)), jnGLaw (z :: Z), true, 5⟩] := by
  unfold jnGLaw jnLaw jnErrLaw
  by_cases hf : FitZLaw (z :: Z)
  · rw [if_pos hf, if_pos hf, if_pos hf]
    exact vec10a hf hn hL
  · rw [if_neg hf, if_neg hf, if_neg hf]
    exact small_nil2 .u8 5 (.inr rfl) (vec10b hf hn hL) (Nat.le_refl 2)
end Go.Abs

set_option linter.unusedVariables false
set_option linter.unusedSimpArgs false
set_option maxRecDepth 100000
set_option maxHeartbeats 4000000
namespace Go.Abs
open Go.Proofs Go.Proofs.Try
noncomputable def sm10c (args : List AVal) (T : Tab) (z : List Int) (Z : List (List Int)) (gx : Nat) (gF : Nat) (n : Nat) (cp : Option Nat) (owX : Bool) (owF : Bool) (eX : TypeId) (eF : TypeId) : Res := ⟨[.tab T [some ⟨.frows 1 gF (z :: Z) [], gx, owX, eX⟩, some ⟨.fam (z :: Z), gF, owF, eF⟩], .val (.tuple args) (.tuple [.slice 1 0 gx 0 n cp]), .eqN n (Z.length + 1), .leN (jnVLaw (z :: Z)).length 140737488355328, .leN (Z.length + 1) 140737488355328], (.tuple [.slice 1 2 (jnGLaw (z :: Z)) 0 (jnLaw (z :: Z)).length none, .int .i64 (jnErrLaw (z :: Z))]), [some ⟨.frows 1 gF (z :: Z) [], gx, owX, eX⟩, some ⟨.fam (z :: Z), gF, owF, eF⟩, some ⟨.ints .u8 (jnLaw (z :: Z)), jnGLaw (z :: Z), true, 5⟩]⟩
theorem sm10c_ok {args : List AVal} {T : Tab} {z : List Int} {Z : List (List Int)} {gx : Nat} {gF : Nat} {n : Nat} {cp : Option Nat} {owX : Bool} {owF : Bool} {eX : TypeId} {eF : TypeId} (h : allP (sm10c args T z Z gx gF n cp owX owF eX eF).cs) : Small prog (fun _ => none) 10 args T (sm10c args T z Z gx gF n cp owX owF eX eF).val (sm10c args T z Z gx gF n cp owX owF eX eF).tab := by
  obtain ⟨hT, hv, h1, h2, h3, _⟩ := h
  simp only [Con.h] at hT hv h1 h2 h3
  injection hv with hv
  subst hT hv
  subst h1
  exact vec10 h2 h3
noncomputable def sm10 : Summary := fun args T => sm10c args T (zOf (dAt T 0)) (ZOf (dAt T 0)) (gAt T 0) (gAt T 1) (lenOf (vAt args 0)) (capOf (vAt args 0)) (owAt T 0) (owAt T 1) (etAt T 0) (etAt T 1)
theorem sm10_ok : SmOk prog (fun _ => none) 10 sm10 := fun args T h => sm10c_ok h
noncomputable def S10v : Summary := callR sm10 []
theorem S10v_ok : SumOk prog (fun _ => none) 10 S10v := callR_ok sm10_ok []
/-! ### Join -/
def S21r : Summary := callR (rowS S21c 0 5) []
theorem S21r_ok : SumOk prog (fun _ => none) 21 S21r := callR_ok (rowS_ok S21c_ok 0 5) []
noncomputable def eE1 : Env := eC0 [(21, S21r)]
theorem eE1_ok : EnvOk eE1 := envOf_ok tysC_ok (SumsOk.cons (fn := f21) S21r_ok (by kernel_rfl) (by kernel_rfl) (by kernel_rfl) trivial)
noncomputable def c38a : Code := match backC 2 (bodyOf f38) with | .seq (.seq a _) _ => a | c => c
noncomputable def c38r : Code := match backC 2 (bodyOf f38) with | .seq _ c => c | c => c
theorem split38 : backC 2 (bodyOf f38) = .seq (.seq c38a (.block 0 (.loop (roundOf 0 f38)))) c38r := by kernel_rfl
noncomputable def N38 (z : List Int) (Z : List (List Int)) (gx gF : Nat) (cp : Option Nat) (owX owF : Bool) (eX eF : TypeId) : Out := trim 2 2 [0,3] (runs eE1 25 ⟨2, []⟩ 400 (frontC 2 (bodyOf f38)) [(0, .slice 1 0 gx 0 (Z.length + 1) cp)] [some ⟨.frows 1 gF (z :: Z) [], gx, owX, eX⟩, some ⟨.fam (z :: Z), gF, owF, eF⟩] [])
theorem N38_ok {z : List Int} {Z : List (List Int)} {gx gF : Nat} {cp : Option Nat} {owX owF : Bool} {eX eF : TypeId} (h : allP []) : Ok (N38 z Z gx gF cp owX owF eX eF) := Ok.dem (fl := []) (by kernel_rfl) (by kernel_rfl) (by kernel_rfl) h
theorem N38_ex {z : List Int} {Z : List (List Int)} {gx gF : Nat} {cp : Option Nat} {owX owF : Bool} {eX eF : TypeId} : (N38 z Z gx gF cp owX owF eX eF).ex = .normal := by kernel_rfl
theorem N38_fm {z : List Int} {Z : List (List Int)} {gx gF : Nat} {cp : Option Nat} {owX owF : Bool} {eX eF : TypeId} : (N38 z Z gx gF cp owX owF eX eF).fm = [(0, .slice 1 0 gx 0 (Z.length + 1) cp), (3, .nilSlice)] := by kernel_rfl
theorem N38_tab {z : List Int} {Z : List (List Int)} {gx gF : Nat} {cp : Option Nat} {owX owF : Bool} {eX eF : TypeId} : (N38 z Z gx gF cp owX owF eX eF).tab = [some ⟨AVal.frows 1 gF (z :: Z) [], gx, owX, eX⟩, some ⟨AVal.fam (z :: Z), gF, owF, eF⟩] := by kernel_rfl
noncomputable def I38 (z : List Int) (Z : List (List Int)) (gx gF : Nat) (cp : Option Nat) (owX owF : Bool) (eX eF : TypeId) : Out := trim 2 3 [0,3,4] (run eE1 25 ⟨2, []⟩ 400 c38a [(0, .slice 1 0 gx 0 (Z.length + 1) cp), (3, .slice 1 2 0 0 0 none)] [some ⟨.frows 1 gF (z :: Z) [], gx, owX, eX⟩, some ⟨.fam (z :: Z), gF, owF, eF⟩, some ⟨.ints .u8 [], 0, true, 5⟩] [])
theorem I38_ok {z : List Int} {Z : List (List Int)} {gx gF : Nat} {cp : Option Nat} {owX owF : Bool} {eX eF : TypeId} (h : allP []) : Ok (I38 z Z gx gF cp owX owF eX eF) := Ok.dem (fl := []) (by kernel_rfl) (by kernel_rfl) (by kernel_rfl) h
theorem I38_ex {z : List Int} {Z : List (List Int)} {gx gF : Nat} {cp : Option Nat} {owX owF : Bool} {eX eF : TypeId} : (I38 z Z gx gF cp owX owF eX eF).ex = .normal := by kernel_rfl
theorem I38_fm {z : List Int} {Z : List (List Int)} {gx gF : Nat} {cp : Option Nat} {owX owF : Bool} {eX eF : TypeId} : (I38 z Z gx gF cp owX owF eX eF).fm = [(0, .slice 1 0 gx 0 (Z.length + 1) cp), (3, .slice 1 2 0 0 0 none), (4, .int .i64 0)] := by kernel_rfl
theorem I38_tab {z : List Int} {Z : List (List Int)} {gx gF : Nat} {cp : Option Nat} {owX owF : Bool} {eX eF : TypeId} : (I38 z Z gx gF cp owX owF eX eF).tab = [some ⟨AVal.frows 1 gF (z :: Z) [], gx, owX, eX⟩, some ⟨AVal.fam (z :: Z), gF, owF, eF⟩, some ⟨.ints .u8 [], 0, true, 5⟩] := by kernel_rfl
noncomputable def A38 (z : List Int) (Z : List (List Int)) (X0 : List Int) (i gx gF m : Nat) (cp : Option Nat) (owX owF : Bool) (eX eF : TypeId) : Out := trim 2 3 [0,3,4] (run eE1 25 ⟨2, []⟩ 400 (roundOf 0 f38) [(0, .slice 1 0 gx 0 (Z.length + 1) cp), (3, .slice 1 2 m 0 X0.length none), (4, .int .i64 (i : Nat))] [some ⟨.frows 1 gF (z :: Z) [], gx, owX, eX⟩, some ⟨.fam (z :: Z), gF, owF, eF⟩, some ⟨.ints .u8 X0, m, true, 5⟩] [some true])
theorem A38_ok {z : List Int} {Z : List (List Int)} {X0 : List Int} {i gx gF m : Nat} {cp : Option Nat} {owX owF : Bool} {eX eF : TypeId} (h : allP [.eqN gx gx, .p (decide ((↑i : Int) < (↑(Z.length + 1) : Int)) = true), .eqN gx gx, .leI 0 (↑i : Int), .leI ((↑i : Int) + 1) (↑(Z.length + 1) : Int), .eqN gx gx, .leN (i + 1) (z :: Z).length, .eqN gF gF, .eqN gF gF, .leN (0 + ((z :: Z).getD i
 []).length) ((z :: Z).getD i []).length, .eqN m m, .leN (0 + X0.length) X0.length, .leN (addO X0.length (vecLaw (subLaw ((z :: Z).getD i []) 0 ((z :: Z).getD i []).length)).length) 140737488355328, .eqN (if ((z :: Z).getD i []).length ≤ 65536 then (lenLaw (↑((z :: Z).getD i []).length : Int)).length - 1 + 1 else 0) (if ((z :: Z).getD i []).length ≤ 65536 then (lenLaw (↑((z :: Z).getD i []).length :
 Int)).length - 1 + 1 else 0), .leN (0 + (vecLaw (subLaw ((z :: Z).getD i []) 0 ((z :: Z).getD i []).length)).length) (vecLaw (subLaw ((z :: Z).getD i []) 0 ((z :: Z).getD i []).length)).length, .rng (-9223372036854775808) ((↑i : Int) + 1) 9223372036854775807]) : Ok (A38 z Z X0 i gx gF m cp owX owF eX eF) := Ok.dem (fl := bitsF 19 132608) (by kernel_rfl) (by kernel_rfl) (by kernel_rfl) h
theorem A38_ex {z : List Int} {Z : List (List Int)} {X0 : List Int} {i gx gF m : Nat} {cp : Option Nat} {owX owF : Bool} {eX eF : TypeId} : (A38 z Z X0 i gx gF m cp owX owF eX eF).ex = .normal := by kernel_rfl
theorem A38_fm {z : List Int} {Z : List (List Int)} {X0 : List Int} {i gx gF m : Nat} {cp : Option Nat} {owX owF : Bool} {eX eF : TypeId} : (A38 z Z X0 i gx gF m cp owX owF eX eF).fm = [(0, .slice 1 0 gx 0 (Z.length + 1) cp), (3, .slice 1 2 (m + 1) 0 (addO X0.length (vecLaw (subLaw ((z :: Z).getD i []) 0 ((z :: Z).getD i []).length)).length) none), (4, .int .i64 ((↑i : Int) + 1))] := by kernel_rfl
theorem A38_tab {z : List Int} {Z : List (List Int)} {X0 : List Int} {i gx gF m : Nat} {cp : Option Nat} {owX owF : Bool} {eX eF : TypeId} : (A38 z Z X0 i gx gF m cp owX owF eX eF).tab = [some ⟨AVal.frows 1 gF (z :: Z) [], gx, owX, eX⟩, some ⟨AVal.fam (z :: Z), gF, owF, eF⟩, some ⟨.ints .u8 (List.take X0.length X0 ++ List.take (vecLaw (subLaw ((z :: Z).getD i []) 0 ((z :: Z).getD i
 []).length)).length (vecLaw (subLaw ((z :: Z).getD i []) 0 ((z :: Z).getD i []).length))), m + 1, true, 5⟩] := by kernel_rfl
noncomputable def D38 (z : List Int) (Z : List (List Int)) (X0 : List Int) (i gx gF m : Nat) (cp : Option Nat) (owX owF : Bool) (eX eF : TypeId) : Out := trim 2 3 [3] (run eE1 25 ⟨2, []⟩ 400 (roundOf 0 f38) [(0, .slice 1 0 gx 0 (Z.length + 1) cp), (3, .slice 1 2 m 0 X0.length none), (4, .int .i64 (i : Nat))] [some ⟨.frows 1 gF (z :: Z) [], gx, owX, eX⟩, some ⟨.fam (z :: Z), gF, owF, eF⟩, some ⟨.ints .u8 X0, m, true, 5⟩] [some false])
theorem D38_ok {z : List Int} {Z : List (List Int)} {X0 : List Int} {i gx gF m : Nat} {cp : Option Nat} {owX owF : Bool} {eX eF : TypeId} (h : allP [.eqN gx gx, .p (decide ((↑i : Int) < (↑(Z.length + 1) : Int)) = false)]) : Ok (D38 z Z X0 i gx gF m cp owX owF eX eF) := Ok.dem (fl := [false, false]) (by kernel_rfl) (by kernel_rfl) (by kernel_rfl) h
theorem D38_ex {z : List Int} {Z : List (List Int)} {X0 : List Int} {i gx gF m : Nat} {cp : Option Nat} {owX owF : Bool} {eX eF : TypeId} : (D38 z Z X0 i gx gF m cp owX owF eX eF).ex = .exit 0 := by kernel_rfl
theorem D38_fm {z : List Int} {Z : List (List Int)} {X0 : List Int} {i gx gF m : Nat} {cp : Option Nat} {owX owF : Bool} {eX eF : TypeId} : (D38 z Z X0 i gx gF m cp owX owF eX eF).fm = [(3, .slice 1 2 m 0 X0.length none)] := by kernel_rfl
theorem D38_tab {z : List Int} {Z : List (List Int)} {X0 : List Int} {i gx gF m : Nat} {cp : Option Nat} {owX owF : Bool} {eX eF : TypeId} : (D38 z Z X0 i gx gF m cp owX owF eX eF).tab = [some ⟨AVal.frows 1 gF (z :: Z) [], gx, owX, eX⟩, some ⟨AVal.fam (z :: Z), gF, owF, eF⟩, some ⟨.ints .u8 X0, m, true, 5⟩] := by kernel_rfl
noncomputable def Z38 (z : List Int) (Z : List (List Int)) (X0 : List Int) (i gx gF m : Nat) (cp : Option Nat) (owX owF : Bool) (eX eF : TypeId) : Out := trim 2 3 [2] (run eE1 25 ⟨2, []⟩ 400 c38r [(3, .slice 1 2 m 0 X0.length none)] [some ⟨.frows 1 gF (z :: Z) [], gx, owX, eX⟩, some ⟨.fam (z :: Z), gF, owF, eF⟩, some ⟨.ints .u8 X0, m, true, 5⟩] [])
theorem Z38_ok {z : List Int} {Z : List (List Int)} {X0 : List Int} {i gx gF m : Nat} {cp : Option Nat} {owX owF : Bool} {eX eF : TypeId} (h : allP []) : Ok (Z38 z Z X0 i gx gF m cp owX owF eX eF) := Ok.dem (fl := []) (by kernel_rfl) (by kernel_rfl) (by kernel_rfl) h
theorem Z38_ex {z : List Int} {Z : List (List Int)} {X0 : List Int} {i gx gF m : Nat} {cp : Option Nat} {owX owF : Bool} {eX eF : TypeId} : (Z38 z Z X0 i gx gF m cp owX owF eX eF).ex = .ret := by kernel_rfl
theorem Z38_fm {z : List Int} {Z : List (List Int)} {X0 : List Int} {i gx gF m : Nat} {cp : Option Nat} {owX owF : Bool} {eX eF : TypeId} : (Z38 z Z X0 i gx gF m cp owX owF eX eF).fm = [(2, .slice 1 2 m 0 X0.length none)] := by kernel_rfl
theorem Z38_tab {z : List Int} {Z : List (List Int)} {X0 : List Int} {i gx gF m : Nat} {cp : Option Nat} {owX owF : Bool} {eX eF : TypeId} : (Z38 z Z X0 i gx gF m cp owX owF eX eF).tab = [some ⟨AVal.frows 1 gF (z :: Z) [], gx, owX, eX⟩, some ⟨AVal.fam (z :: Z), gF, owF, eF⟩, some ⟨.ints .u8 X0, m, true, 5⟩] := by kernel_rfl
theorem round38 {z : List Int} {Z : List (List Int)} {gx gF : Nat} {cp : Option Nat} {owX owF : Bool} {eX eF : TypeId} (k : Nat) (hk : k < (z :: Z).length) (hf : ((z :: Z).getD k []).length ≤ 65536) (hn : (jnVLaw (z :: Z)).length ≤ 140737488355328) (hL : Z.length + 1 ≤ 140737488355328) :
    To eE1 25 2 (roundOf 0 f38) [(0, .slice 1 0 gx 0 (Z.length + 1) cp), (3, .slice 1 2 k 0 (jnVLaw ((z :: Z).take k)).length none), (4, .int .i64 (k : Nat))] [some ⟨.frows 1 gF (z :: Z) [], gx, owX, eX⟩, some ⟨.fam (z :: Z), gF, owF, eF⟩, some ⟨.ints .u8 (jnVLaw ((z :: Z).take k)), k, true, 5⟩] .normal [(0, .slice 1 0 gx 0 (Z.length + 1) cp), (3, .slice 1 2 (k + 1) 0 (jnVLaw ((z :: Z).take (k + 1))).length none), (4, .int .i64 (k + 1 : Nat))] [some ⟨.frows 1 gF (z :: Z) [], gx, owX, eX⟩, some ⟨.fam (z :: Z), gF, owF, eF⟩, some ⟨.ints .u8 (jnVLaw ((z :: Z).take (k + 1))), k + 1, true, 5⟩] := by
  have hs := jnVLaw_step (Y := (z :: Z)) hk
  have hle := jnVLaw_le (z :: Z) (k + 1)
  have h1 : (z :: Z).length = Z.length + 1 := rfl
  have hv : vecLaw (subLaw ((z :: Z).getD k []) 0 ((z :: Z).getD k []).length) = lenLaw ((z :: Z).getD k []).length ++ (z :: Z).getD k [] := by
    have e : subLaw ((z :: Z).getD k []) 0 ((z :: Z).getD k []).length = (z :: Z).getD k [] := by unfold subLaw; rw [List.drop_zero, List.take_length]
    rw [e]; unfold vecLaw; rw [if_pos hf]
  have hl : (jnVLaw ((z :: Z).take (k + 1))).length = (jnVLaw ((z :: Z).take k)).length + (lenLaw ((z :: Z).getD k []).length ++ (z :: Z).getD k []).length := by rw [hs, List.length_append]
  refine To.of (o := A38 z Z (jnVLaw ((z :: Z).take k)) k gx gF k cp owX owF eX eF) eE1_ok hmC (Nat.le_refl 2) OrcOk.nil rfl (A38_ok ?_) A38_ex ?_ ?_
  · simp only [allP, Con.h, addO_eq, hv, decide_eq_true_eq, decide_eq_false_iff_not, eq_self, true_and, and_true]
    generalize (lenLaw ((z :: Z).getD k []).length ++ (z :: Z).getD k []).length = rl at hl ⊢
    omega
  · rw [A38_fm, hv]
    simp only [addO_eq, ← hl]
    rfl
  · rw [A38_tab, hv, List.take_length, List.take_length, ← hs]
theorem join38 {z : List Int} {Z : List (List Int)} {gx gF : Nat} {cp : Option Nat} {owX owF : Bool} {eX eF : TypeId} (hf : FitZLaw (z :: Z)) (hn : (jnVLaw (z :: Z)).length ≤ 140737488355328) (hL : Z.length + 1 ≤ 140737488355328) :
    Small prog (fun _ => none) 38 [.slice 1 0 gx 0 (Z.length + 1) cp] [some ⟨.frows 1 gF (z :: Z) [], gx, owX, eX⟩, some ⟨.fam (z :: Z), gF, owF, eF⟩] (.slice 1 2 (Z.length + 1) 0 (jnVLaw (z :: Z)).length none) [some ⟨.frows 1 gF (z :: Z) [], gx, owX, eX⟩, some ⟨.fam (z :: Z), gF, owF, eF⟩, some ⟨.ints .u8 (jnVLaw (z :: Z)), Z.length + 1, true, 5⟩] := by
  refine small_of_awp eE1_ok (f := 38) (fn := f38) (c := bodyOf f38) (by kernel_rfl) (by kernel_rfl) (by kernel_rfl) ?_
  show AWp eE1 25 2 (bodyOf f38) [(0, .slice 1 0 gx 0 (Z.length + 1) cp)] [some ⟨.frows 1 gF (z :: Z) [], gx, owX, eX⟩, some ⟨.fam (z :: Z), gF, owF, eF⟩] _
  refine AWp.cutTG eE1_ok hmC (m := 2) 2 (o := N38 z Z gx gF cp owX owF eX eF) rfl (N38_ok trivial) N38_ex ?_
  rw [split38, N38_fm, N38_tab]
  refine AWp.nilTo [(0, .slice 1 0 gx 0 (Z.length + 1) cp), (3, .slice 1 2 0 0 0 none)] .u8 5 (fun t v hv => by
      simp only [look] at hv ⊢
      repeat' split at hv
      all_goals first
        | (injection hv with hv; subst hv; simp_all; done)
        | (simp_all; done)) ?_
  refine AWp.seq (AWp.seq (AWp.mono (To.of (o := I38 z Z gx gF cp owX owF eX eF) eE1_ok hmC (Nat.le_refl 2) OrcOk.nil rfl (I38_ok trivial) I38_ex I38_fm I38_tab) fun ex fm T hP => ?_))
  obtain ⟨rfl, rfl, rfl⟩ := hP
  refine AWp.mono (To.rounds (E := eE1) (n := 25) (k := 2) (id := 0) (c := roundOf 0 f38) (fun k : Nat => [(0, .slice 1 0 gx 0 (Z.length + 1) cp), (3, .slice 1 2 k 0 (jnVLaw ((z :: Z).take k)).length none), (4, .int .i64 (k : Nat))]) (fun k => [some ⟨.frows 1 gF (z :: Z) [], gx, owX, eX⟩, some ⟨.fam (z :: Z), gF, owF, eF⟩, some ⟨.ints .u8 (jnVLaw ((z :: Z).take k)), k, true, 5⟩]) (Z.length + 1) (fun k hk => round38 k hk (fit_get hf k) hn hL) (fm' := [(3, .slice 1 2 (Z.length + 1) 0 (jnVLaw (z :: Z)).length none)]) (T' := [some ⟨.frows 1 gF (z :: Z) [], gx, owX, eX⟩, some ⟨.fam (z :: Z), gF, owF, eF⟩, some ⟨.ints .u8 (jnVLaw (z :: Z)), Z.length + 1, true, 5⟩]) ?_) fun ex fm T hP => ?_
  · have e : (z :: Z).take (Z.length + 1) = (z :: Z) := List.take_of_length_le (Nat.le_refl _)
    simp only [e]
    exact To.of (o := D38 z Z (jnVLaw (z :: Z)) (Z.length + 1) gx gF (Z.length + 1) cp owX owF eX eF) eE1_ok hmC (Nat.le_refl 2) OrcOk.nil rfl (D38_ok (by simp [allP, Con.h])) D38_ex D38_fm D38_tab
  obtain ⟨rfl, rfl, rfl⟩ := hP
  refine AWp.mono (To.of (o := Z38 z Z (jnVLaw (z :: Z)) 0 gx gF (Z.length + 1) cp owX owF eX eF) eE1_ok hmC (Nat.le_refl 2) OrcOk.nil rfl (Z38_ok trivial) Z38_ex Z38_fm Z38_tab) fun ex fm T hP => ?_
  obtain ⟨rfl, rfl, rfl⟩ := hP
  exact ⟨.inr rfl, rfl, [], [.slice 1 2 (Z.length + 1) 0 (jnVLaw (z :: Z)).length none], rfl, trivial, rfl⟩
noncomputable def sm38c (args : List AVal) (T : Tab) (z : List Int) (Z : List (List Int)) (gx : Nat) (gF : Nat) (n : Nat) (cp : Option Nat) (owX : Bool) (owF : Bool) (eX : TypeId) (eF : TypeId) : Res := ⟨[.tab T [some ⟨.frows 1 gF (z :: Z) [], gx, owX, eX⟩, some ⟨.fam (z :: Z), gF, owF, eF⟩], .val (.tuple args) (.tuple [.slice 1 0 gx 0 n cp]), .eqN n (Z.length + 1), .leN (jnVLaw (z :: Z)).length 140737488355328, .leN (Z.length + 1) 140737488355328, .p (FitZLaw (z :: Z))], (.slice 1 2 (Z.length + 1) 0 (jnVLaw (z :: Z)).length none), [some ⟨.frows 1 gF (z :: Z) [], gx, owX, eX⟩, some ⟨.fam (z :: Z), gF, owF, eF⟩, some ⟨.ints .u8 (jnVLaw (z :: Z)), Z.length + 1, true, 5⟩]⟩
theorem sm38c_ok {args : List AVal} {T : Tab} {z : List Int} {Z : List (List Int)} {gx : Nat} {gF : Nat} {n : Nat} {cp : Option Nat} {owX : Bool} {owF : Bool} {eX : TypeId} {eF : TypeId} (h : allP (sm38c args T z Z gx gF n cp owX owF eX eF).cs) : Small prog (fun _ => none) 38 args T (sm38c args T z Z gx gF n cp owX owF eX eF).val (sm38c args T z Z gx gF n cp owX owF eX eF).tab := by
  obtain ⟨hT, hv, h1, h2, h3, h4, _⟩ := h
  simp only [Con.h] at hT hv h1 h2 h3 h4
  injection hv with hv
  subst hT hv
  subst h1
  exact join38 h4 h2 h3
noncomputable def sm38 : Summary := fun args T => sm38c args T (zOf (dAt T 0)) (ZOf (dAt T 0)) (gAt T 0) (gAt T 1) (lenOf (vAt args 0)) (capOf (vAt args 0)) (owAt T 0) (owAt T 1) (etAt T 0) (etAt T 1)
theorem sm38_ok : SmOk prog (fun _ => none) 38 sm38 := fun args T h => sm38c_ok h
noncomputable def S38 : Summary := callR sm38 []
theorem S38_ok : SumOk prog (fun _ => none) 38 S38 := callR_ok sm38_ok []
end Go.Abs

set_option linter.unusedVariables false
set_option linter.unusedSimpArgs false
set_option maxRecDepth 100000
set_option maxHeartbeats 4000000
namespace Go.Abs
open Go.Proofs Go.Proofs.Try
/-! ### the document's Vectors -/
noncomputable def eE2 : Env := eC0 [(38, S38)]
theorem eE2_ok : EnvOk eE2 := envOf_ok tysC_ok (SumsOk.cons (fn := f38) S38_ok (by kernel_rfl) (by kernel_rfl) (by kernel_rfl) trivial)
noncomputable def c11a : Code := match backC 1 (bodyOf f11) with | .seq (.seq a _) _ => a | c => c
noncomputable def c11r : Code := match backC 1 (bodyOf f11) with | .seq _ c => c | c => c
theorem split11 : backC 1 (bodyOf f11) = .seq (.seq c11a (.block 0 (.loop (roundOf 0 f11)))) c11r := by kernel_rfl
noncomputable def N11 (z : List Int) (Z : List (List Int)) (gx gF : Nat) (cp : Option Nat) (owX owF : Bool) (eX eF : TypeId) : Out := trim 2 2 [0] (runs eE2 19 ⟨2, []⟩ 400 (frontC 1 (bodyOf f11)) [(0, .slice 1 0 gx 0 (Z.length + 1) cp)] [some ⟨.frows 1 gF (z :: Z) [], gx, owX, eX⟩, some ⟨.fam (z :: Z), gF, owF, eF⟩] [])
theorem N11_ok {z : List Int} {Z : List (List Int)} {gx gF : Nat} {cp : Option Nat} {owX owF : Bool} {eX eF : TypeId} (h : allP []) : Ok (N11 z Z gx gF cp owX owF eX eF) := Ok.dem (fl := []) (by kernel_rfl) (by kernel_rfl) (by kernel_rfl) h
theorem N11_ex {z : List Int} {Z : List (List Int)} {gx gF : Nat} {cp : Option Nat} {owX owF : Bool} {eX eF : TypeId} : (N11 z Z gx gF cp owX owF eX eF).ex = .normal := by kernel_rfl
theorem N11_fm {z : List Int} {Z : List (List Int)} {gx gF : Nat} {cp : Option Nat} {owX owF : Bool} {eX eF : TypeId} : (N11 z Z gx gF cp owX owF eX eF).fm = [(0, .slice 1 0 gx 0 (Z.length + 1) cp)] := by kernel_rfl
theorem N11_tab {z : List Int} {Z : List (List Int)} {gx gF : Nat} {cp : Option Nat} {owX owF : Bool} {eX eF : TypeId} : (N11 z Z gx gF cp owX owF eX eF).tab = [some ⟨AVal.frows 1 gF (z :: Z) [], gx, owX, eX⟩, some ⟨AVal.fam (z :: Z), gF, owF, eF⟩] := by kernel_rfl
noncomputable def I11 (z : List Int) (Z : List (List Int)) (gx gF : Nat) (cp : Option Nat) (owX owF : Bool) (eX eF : TypeId) : Out := trim 2 2 [0,4] (run eE2 19 ⟨2, []⟩ 400 c11a [(0, .slice 1 0 gx 0 (Z.length + 1) cp)] [some ⟨.frows 1 gF (z :: Z) [], gx, owX, eX⟩, some ⟨.fam (z :: Z), gF, owF, eF⟩] [])
theorem I11_ok {z : List Int} {Z : List (List Int)} {gx gF : Nat} {cp : Option Nat} {owX owF : Bool} {eX eF : TypeId} (h : allP []) : Ok (I11 z Z gx gF cp owX owF eX eF) := Ok.dem (fl := []) (by kernel_rfl) (by kernel_rfl) (by kernel_rfl) h
theorem I11_ex {z : List Int} {Z : List (List Int)} {gx gF : Nat} {cp : Option Nat} {owX owF : Bool} {eX eF : TypeId} : (I11 z Z gx gF cp owX owF eX eF).ex = .normal := by kernel_rfl
theorem I11_fm {z : List Int} {Z : List (List Int)} {gx gF : Nat} {cp : Option Nat} {owX owF : Bool} {eX eF : TypeId} : (I11 z Z gx gF cp owX owF eX eF).fm = [(0, .slice 1 0 gx 0 (Z.length + 1) cp), (4, .int .i64 0)] := by kernel_rfl
theorem I11_tab {z : List Int} {Z : List (List Int)} {gx gF : Nat} {cp : Option Nat} {owX owF : Bool} {eX eF : TypeId} : (I11 z Z gx gF cp owX owF eX eF).tab = [some ⟨AVal.frows 1 gF (z :: Z) [], gx, owX, eX⟩, some ⟨AVal.fam (z :: Z), gF, owF, eF⟩] := by kernel_rfl
noncomputable def A11 (z : List Int) (Z : List (List Int)) (i gx gF : Nat) (cp : Option Nat) (owX owF : Bool) (eX eF : TypeId) : Out := trim 2 2 [0,4] (run eE2 19 ⟨2, []⟩ 400 (roundOf 0 f11) [(0, .slice 1 0 gx 0 (Z.length + 1) cp), (4, .int .i64 (i : Nat))] [some ⟨.frows 1 gF (z :: Z) [], gx, owX, eX⟩, some ⟨.fam (z :: Z), gF, owF, eF⟩] [some true, some false])
theorem A11_ok {z : List Int} {Z : List (List Int)} {i gx gF : Nat} {cp : Option Nat} {owX owF : Bool} {eX eF : TypeId} (h : allP [.eqN gx gx, .p (decide ((↑i : Int) < (↑(Z.length + 1) : Int)) = true), .eqN gx gx, .leI 0 (↑i : Int), .leI ((↑i : Int) + 1) (↑(Z.length + 1) : Int), .eqN gx gx, .leN (i + 1) (z :: Z).length, .eqN gF gF, .p (decide (65536 < (↑((z :: Z).getD i []).length : Int)) = false),
 .rng (-9223372036854775808) ((↑i : Int) + 1) 9223372036854775807]) : Ok (A11 z Z i gx gF cp owX owF eX eF) := Ok.dem (fl := [false, false, false, false, false, false, false, false, false, false]) (by kernel_rfl) (by kernel_rfl) (by kernel_rfl) h
theorem A11_ex {z : List Int} {Z : List (List Int)} {i gx gF : Nat} {cp : Option Nat} {owX owF : Bool} {eX eF : TypeId} : (A11 z Z i gx gF cp owX owF eX eF).ex = .normal := by kernel_rfl
theorem A11_fm {z : List Int} {Z : List (List Int)} {i gx gF : Nat} {cp : Option Nat} {owX owF : Bool} {eX eF : TypeId} : (A11 z Z i gx gF cp owX owF eX eF).fm = [(0, .slice 1 0 gx 0 (Z.length + 1) cp), (4, .int .i64 ((↑i : Int) + 1))] := by kernel_rfl
theorem A11_tab {z : List Int} {Z : List (List Int)} {i gx gF : Nat} {cp : Option Nat} {owX owF : Bool} {eX eF : TypeId} : (A11 z Z i gx gF cp owX owF eX eF).tab = [some ⟨AVal.frows 1 gF (z :: Z) [], gx, owX, eX⟩, some ⟨AVal.fam (z :: Z), gF, owF, eF⟩] := by kernel_rfl
noncomputable def B11 (z : List Int) (Z : List (List Int)) (i gx gF : Nat) (cp : Option Nat) (owX owF : Bool) (eX eF : TypeId) : Out := trim 2 2 [2,3] (run eE2 19 ⟨2, []⟩ 400 (roundOf 0 f11) [(0, .slice 1 0 gx 0 (Z.length + 1) cp), (4, .int .i64 (i : Nat))] [some ⟨.frows 1 gF (z :: Z) [], gx, owX, eX⟩, some ⟨.fam (z :: Z), gF, owF, eF⟩] [some true, some true])
theorem B11_ok {z : List Int} {Z : List (List Int)} {i gx gF : Nat} {cp : Option Nat} {owX owF : Bool} {eX eF : TypeId} (h : allP [.eqN gx gx, .p (decide ((↑i : Int) < (↑(Z.length + 1) : Int)) = true), .eqN gx gx, .leI 0 (↑i : Int), .leI ((↑i : Int) + 1) (↑(Z.length + 1) : Int), .eqN gx gx, .leN (i + 1) (z :: Z).length, .eqN gF gF, .p (decide (65536 < (↑((z :: Z).getD i []).length : Int)) = true)])
 : Ok (B11 z Z i gx gF cp owX owF eX eF) := Ok.dem (fl := [false, false, false, false, false, false, false, false, false]) (by kernel_rfl) (by kernel_rfl) (by kernel_rfl) h
theorem B11_ex {z : List Int} {Z : List (List Int)} {i gx gF : Nat} {cp : Option Nat} {owX owF : Bool} {eX eF : TypeId} : (B11 z Z i gx gF cp owX owF eX eF).ex = .ret := by kernel_rfl
theorem B11_fm {z : List Int} {Z : List (List Int)} {i gx gF : Nat} {cp : Option Nat} {owX owF : Bool} {eX eF : TypeId} : (B11 z Z i gx gF cp owX owF eX eF).fm = [(2, .nilSlice), (3, .int .i64 6)] := by kernel_rfl
theorem B11_tab {z : List Int} {Z : List (List Int)} {i gx gF : Nat} {cp : Option Nat} {owX owF : Bool} {eX eF : TypeId} : (B11 z Z i gx gF cp owX owF eX eF).tab = [some ⟨AVal.frows 1 gF (z :: Z) [], gx, owX, eX⟩, some ⟨AVal.fam (z :: Z), gF, owF, eF⟩] := by kernel_rfl
noncomputable def D11 (z : List Int) (Z : List (List Int)) (i gx gF : Nat) (cp : Option Nat) (owX owF : Bool) (eX eF : TypeId) : Out := trim 2 2 [0] (run eE2 19 ⟨2, []⟩ 400 (roundOf 0 f11) [(0, .slice 1 0 gx 0 (Z.length + 1) cp), (4, .int .i64 (i : Nat))] [some ⟨.frows 1 gF (z :: Z) [], gx, owX, eX⟩, some ⟨.fam (z :: Z), gF, owF, eF⟩] [some false])
theorem D11_ok {z : List Int} {Z : List (List Int)} {i gx gF : Nat} {cp : Option Nat} {owX owF : Bool} {eX eF : TypeId} (h : allP [.eqN gx gx, .p (decide ((↑i : Int) < (↑(Z.length + 1) : Int)) = false)]) : Ok (D11 z Z i gx gF cp owX owF eX eF) := Ok.dem (fl := [false, false]) (by kernel_rfl) (by kernel_rfl) (by kernel_rfl) h
theorem D11_ex {z : List Int} {Z : List (List Int)} {i gx gF : Nat} {cp : Option Nat} {owX owF : Bool} {eX eF : TypeId} : (D11 z Z i gx gF cp owX owF eX eF).ex = .exit 0 := by kernel_rfl
theorem D11_fm {z : List Int} {Z : List (List Int)} {i gx gF : Nat} {cp : Option Nat} {owX owF : Bool} {eX eF : TypeId} : (D11 z Z i gx gF cp owX owF eX eF).fm = [(0, .slice 1 0 gx 0 (Z.length + 1) cp)] := by kernel_rfl
theorem D11_tab {z : List Int} {Z : List (List Int)} {i gx gF : Nat} {cp : Option Nat} {owX owF : Bool} {eX eF : TypeId} : (D11 z Z i gx gF cp owX owF eX eF).tab = [some ⟨AVal.frows 1 gF (z :: Z) [], gx, owX, eX⟩, some ⟨AVal.fam (z :: Z), gF, owF, eF⟩] := by kernel_rfl
noncomputable def Z11 (z : List Int) (Z : List (List Int)) (gx gF : Nat) (cp : Option Nat) (owX owF : Bool) (eX eF : TypeId) : Out := trim 2 3 [2,3] (run eE2 19 ⟨2, []⟩ 400 c11r [(0, .slice 1 0 gx 0 (Z.length + 1) cp)] [some ⟨.frows 1 gF (z :: Z) [], gx, owX, eX⟩, some ⟨.fam (z :: Z), gF, owF, eF⟩] [])
theorem Z11_ok {z : List Int} {Z : List (List Int)} {gx gF : Nat} {cp : Option Nat} {owX owF : Bool} {eX eF : TypeId} (h : allP [.eqN gx gx, .eqN gF gF, .eqN (Z.length + 1) (Z.length + 1), .leN (jnVLaw (z :: Z)).length 140737488355328, .leN (Z.length + 1) 140737488355328, .p (FitZLaw (z :: Z))]) : Ok (Z11 z Z gx gF cp owX owF eX eF) := Ok.dem (fl := [false, false, false, false, false, false, false,
 false]) (by kernel_rfl) (by kernel_rfl) (by kernel_rfl) h
theorem Z11_ex {z : List Int} {Z : List (List Int)} {gx gF : Nat} {cp : Option Nat} {owX owF : Bool} {eX eF : TypeId} : (Z11 z Z gx gF cp owX owF eX eF).ex = .ret := by kernel_rfl
theorem Z11_fm {z : List Int} {Z : List (List Int)} {gx gF : Nat} {cp : Option Nat} {owX owF : Bool} {eX eF : TypeId} : (Z11 z Z gx gF cp owX owF eX eF).fm = [(2, .slice 1 2 (Z.length + 1) 0 (jnVLaw (z :: Z)).length none), (3, .int .i64 0)] := by kernel_rfl
theorem Z11_tab {z : List Int} {Z : List (List Int)} {gx gF : Nat} {cp : Option Nat} {owX owF : Bool} {eX eF : TypeId} : (Z11 z Z gx gF cp owX owF eX eF).tab = [some ⟨AVal.frows 1 gF (z :: Z) [], gx, owX, eX⟩, some ⟨AVal.fam (z :: Z), gF, owF, eF⟩, some ⟨.ints .u8 (jnVLaw (z :: Z)), Z.length + 1, true, 5⟩] := by kernel_rfl
theorem round11 {z : List Int} {Z : List (List Int)} {gx gF : Nat} {cp : Option Nat} {owX owF : Bool} {eX eF : TypeId} (k : Nat) (hk : k < (z :: Z).length) (hf : ((z :: Z).getD k []).length ≤ 65536) (hL : Z.length + 1 ≤ 140737488355328) :
    To eE2 19 2 (roundOf 0 f11) [(0, .slice 1 0 gx 0 (Z.length + 1) cp), (4, .int .i64 (k : Nat))] [some ⟨.frows 1 gF (z :: Z) [], gx, owX, eX⟩, some ⟨.fam (z :: Z), gF, owF, eF⟩] .normal [(0, .slice 1 0 gx 0 (Z.length + 1) cp), (4, .int .i64 (k + 1 : Nat))] [some ⟨.frows 1 gF (z :: Z) [], gx, owX, eX⟩, some ⟨.fam (z :: Z), gF, owF, eF⟩] := by
  have h1 : (z :: Z).length = Z.length + 1 := rfl
  refine To.of (o := A11 z Z k gx gF cp owX owF eX eF) eE2_ok hmC (Nat.le_refl 2) OrcOk.nil rfl (A11_ok ?_) A11_ex A11_fm A11_tab
  simp only [allP, Con.h, decide_eq_true_eq, decide_eq_false_iff_not, eq_self, true_and, and_true]
  generalize ((z :: Z).getD k []) = row at hf ⊢
  omega
theorem vec11a {z : List Int} {Z : List (List Int)} {gx gF : Nat} {cp : Option Nat} {owX owF : Bool} {eX eF : TypeId} (hf : FitZLaw (z :: Z)) (hn : (jnVLaw (z :: Z)).length ≤ 140737488355328) (hL : Z.length + 1 ≤ 140737488355328) :
    Small prog (fun _ => none) 11 [.slice 1 0 gx 0 (Z.length + 1) cp] [some ⟨.frows 1 gF (z :: Z) [], gx, owX, eX⟩, some ⟨.fam (z :: Z), gF, owF, eF⟩] (.tuple [.slice 1 2 (Z.length + 1) 0 (jnVLaw (z :: Z)).length none, .int .i64 0]) [some ⟨.frows 1 gF (z :: Z) [], gx, owX, eX⟩, some ⟨.fam (z :: Z), gF, owF, eF⟩, some ⟨.ints .u8 (jnVLaw (z :: Z)), Z.length + 1, true, 5⟩] := by
  refine small_of_awp eE2_ok (f := 11) (fn := f11) (c := bodyOf f11) (by kernel_rfl) (by kernel_rfl) (by kernel_rfl) ?_
  show AWp eE2 19 2 (bodyOf f11) [(0, .slice 1 0 gx 0 (Z.length + 1) cp)] [some ⟨.frows 1 gF (z :: Z) [], gx, owX, eX⟩, some ⟨.fam (z :: Z), gF, owF, eF⟩] _
  refine AWp.cutTG eE2_ok hmC (m := 2) 1 (o := N11 z Z gx gF cp owX owF eX eF) rfl (N11_ok trivial) N11_ex ?_
  rw [split11, N11_fm, N11_tab]
  refine AWp.seq (AWp.seq (AWp.mono (To.of (o := I11 z Z gx gF cp owX owF eX eF) eE2_ok hmC (Nat.le_refl 2) OrcOk.nil rfl (I11_ok trivial) I11_ex I11_fm I11_tab) fun ex fm T hP => ?_))
  obtain ⟨rfl, rfl, rfl⟩ := hP
  refine AWp.mono (To.rounds (E := eE2) (n := 19) (k := 2) (id := 0) (c := roundOf 0 f11) (fun k : Nat => [(0, .slice 1 0 gx 0 (Z.length + 1) cp), (4, .int .i64 (k : Nat))]) (fun k => [some ⟨.frows 1 gF (z :: Z) [], gx, owX, eX⟩, some ⟨.fam (z :: Z), gF, owF, eF⟩]) (Z.length + 1) (fun k hk => round11 k hk (fit_get hf k) hL)
    (To.of (o := D11 z Z (Z.length + 1) gx gF cp owX owF eX eF) eE2_ok hmC (Nat.le_refl 2) OrcOk.nil rfl (D11_ok (by simp [allP, Con.h])) D11_ex D11_fm D11_tab)) fun ex fm T hP => ?_
  obtain ⟨rfl, rfl, rfl⟩ := hP
  refine AWp.mono (To.of (o := Z11 z Z gx gF cp owX owF eX eF) eE2_ok hmC (Nat.le_refl 2) OrcOk.nil rfl (Z11_ok (by simp only [allP, Con.h, eq_self, true_and, and_true]; exact ⟨hn, hL, hf⟩)) Z11_ex Z11_fm Z11_tab) fun ex fm T hP => ?_
  obtain ⟨rfl, rfl, rfl⟩ := hP
  exact ⟨.inr rfl, rfl, [], [.slice 1 2 (Z.length + 1) 0 (jnVLaw (z :: Z)).length none, .int .i64 0], rfl, trivial, rfl⟩
theorem vec11b {z : List Int} {Z : List (List Int)} {gx gF : Nat} {cp : Option Nat} {owX owF : Bool} {eX eF : TypeId} (hf : ¬ FitZLaw (z :: Z)) (hL : Z.length + 1 ≤ 140737488355328) :
    Small prog (fun _ => none) 11 [.slice 1 0 gx 0 (Z.length + 1) cp] [some ⟨.frows 1 gF (z :: Z) [], gx, owX, eX⟩, some ⟨.fam (z :: Z), gF, owF, eF⟩] (.tuple [.nilSlice, .int .i64 6]) [some ⟨.frows 1 gF (z :: Z) [], gx, owX, eX⟩, some ⟨.fam (z :: Z), gF, owF, eF⟩] := by
  obtain ⟨j, hj, hbig, hfit⟩ := fit_first hf
  refine small_of_awp eE2_ok (f := 11) (fn := f11) (c := bodyOf f11) (by kernel_rfl) (by kernel_rfl) (by kernel_rfl) ?_
  show AWp eE2 19 2 (bodyOf f11) [(0, .slice 1 0 gx 0 (Z.length + 1) cp)] [some ⟨.frows 1 gF (z :: Z) [], gx, owX, eX⟩, some ⟨.fam (z :: Z), gF, owF, eF⟩] _
  refine AWp.cutTG eE2_ok hmC (m := 2) 1 (o := N11 z Z gx gF cp owX owF eX eF) rfl (N11_ok trivial) N11_ex ?_
  rw [split11, N11_fm, N11_tab]
  refine AWp.seq (AWp.seq (AWp.mono (To.of (o := I11 z Z gx gF cp owX owF eX eF) eE2_ok hmC (Nat.le_refl 2) OrcOk.nil rfl (I11_ok trivial) I11_ex I11_fm I11_tab) fun ex fm T hP => ?_))
  obtain ⟨rfl, rfl, rfl⟩ := hP
  refine AWp.mono (To.roundsRet (E := eE2) (n := 19) (k := 2) (id := 0) (c := roundOf 0 f11) (fun k : Nat => [(0, .slice 1 0 gx 0 (Z.length + 1) cp), (4, .int .i64 (k : Nat))]) (fun k => [some ⟨.frows 1 gF (z :: Z) [], gx, owX, eX⟩, some ⟨.fam (z :: Z), gF, owF, eF⟩]) j (fun k hk => round11 k (by omega) (hfit k hk) hL)
      (To.of (o := B11 z Z j gx gF cp owX owF eX eF) eE2_ok hmC (Nat.le_refl 2) OrcOk.nil rfl (B11_ok ?_) B11_ex B11_fm B11_tab) (by intro h; cases h) (by intro h; cases h)) fun ex fm T hP => ?_
  · have h1 : (z :: Z).length = Z.length + 1 := rfl
    simp only [allP, Con.h, decide_eq_true_eq, eq_self, true_and, and_true]
    generalize ((z :: Z).getD j []) = row at hbig ⊢
    omega
  obtain ⟨rfl, rfl, rfl⟩ := hP
  exact ⟨.inr rfl, rfl, [], [.nilSlice, .int .i64 6], rfl, trivial, rfl⟩
def jnG1Law (Y : List (List Int)) : Nat := if FitZLaw Y then Y.length else 0
theorem vec11 {z : List Int} {Z : List (List Int)} {gx gF : Nat} {cp : Option Nat} {owX owF : Bool} {eX eF : TypeId} (hn : (jnVLaw (z :: Z)).length ≤ 140737488355328) (hL : Z.length + 1 ≤ 140737488355328) :
    Small prog (fun _ => none) 11 [.slice 1 0 gx 0 (Z.length + 1) cp] [some ⟨.frows 1 gF (z :: Z) [], gx, owX, eX⟩, some ⟨.fam (z :: Z), gF, owF, eF⟩] (.tuple [.slice 1 2 (jnG1Law (z :: Z)) 0 (jnLaw (z :: Z)).length none, .int .i64 (jnErrLaw (z :: Z))]) [some ⟨.frows 1 gF (z :: Z) [], gx, owX, eX⟩, some ⟨.fam (z :: Z), gF, owF, eF⟩, some ⟨.ints .u8 (jnLaw (z :: Z)), jnG1Law (z :: Z), true, 5⟩] := by
  unfold jnG1Law jnLaw jnErrLaw
  by_cases hf : FitZLaw (z :: Z)
  · rw [if_pos hf, if_pos hf, if_pos hf]
    exact vec11a hf hn hL
  · rw [if_neg hf, if_neg hf, if_neg hf]
    exact small_nil2 .u8 5 (.inr rfl) (vec11b hf hL) (Nat.le_refl 2)
noncomputable def sm11c (args : List AVal) (T : Tab) (z : List Int) (Z : List (List Int)) (gx : Nat) (gF : Nat) (n : Nat) (cp : Option Nat) (owX : Bool) (owF : Bool) (eX : TypeId) (eF : TypeId) : Res := ⟨[.tab T [some ⟨.frows 1 gF (z :: Z) [], gx, owX, eX⟩, some ⟨.fam (z :: Z), gF, owF, eF⟩], .val (.tuple args) (.tuple [.slice 1 0 gx 0 n cp]), .eqN n (Z.length + 1), .leN (jnVLaw (z :: Z)).length 140737488355328, .leN (Z.length + 1) 140737488355328], (.tuple [.slice 1 2 (jnG1Law (z :: Z)) 0 (jnLaw (z :: Z)).length none, .int .i64 (jnErrLaw (z :: Z))]), [some ⟨.frows 1 gF (z :: Z) [], gx, owX, eX⟩, some ⟨.fam (z :: Z), gF, owF, eF⟩, some ⟨.ints .u8 (jnLaw (z :: Z)), jnG1Law (z :: Z), true, 5⟩]⟩
theorem sm11c_ok {args : List AVal} {T : Tab} {z : List Int} {Z : List (List Int)} {gx : Nat} {gF : Nat} {n : Nat} {cp : Option Nat} {owX : Bool} {owF : Bool} {eX : TypeId} {eF : TypeId} (h : allP (sm11c args T z Z gx gF n cp owX owF eX eF).cs) : Small prog (fun _ => none) 11 args T (sm11c args T z Z gx gF n cp owX owF eX eF).val (sm11c args T z Z gx gF n cp owX owF eX eF).tab := by
  obtain ⟨hT, hv, h1, h2, h3, _⟩ := h
  simp only [Con.h] at hT hv h1 h2 h3
  injection hv with hv
  subst hT hv
  subst h1
  exact vec11 h2 h3
noncomputable def sm11 : Summary := fun args T => sm11c args T (zOf (dAt T 0)) (ZOf (dAt T 0)) (gAt T 0) (gAt T 1) (lenOf (vAt args 0)) (capOf (vAt args 0)) (owAt T 0) (owAt T 1) (etAt T 0) (etAt T 1)
theorem sm11_ok : SmOk prog (fun _ => none) 11 sm11 := fun args T h => sm11c_ok h
noncomputable def S11v : Summary := callR sm11 []
theorem S11v_ok : SumOk prog (fun _ => none) 11 S11v := callR_ok sm11_ok []
end Go.Abs

set_option linter.unusedVariables false
set_option linter.unusedSimpArgs false
set_option maxRecDepth 100000
set_option maxHeartbeats 4000000
namespace Go.Abs
open Go.Proofs Go.Proofs.Try
/-! ### CodecJoins: the pieces -/
noncomputable def eE3 : Env := eC0 [(10, S10v), (11, S11v), (12, S12), (13, S13)]
theorem eE3_ok : EnvOk eE3 := envOf_ok tysC_ok (SumsOk.cons (fn := f10) S10v_ok (by kernel_rfl) (by kernel_rfl) (by kernel_rfl) (SumsOk.cons (fn := f11) S11v_ok (by kernel_rfl) (by kernel_rfl) (by kernel_rfl) (SumsOk.cons (fn := f12) S12_ok (by kernel_rfl) (by kernel_rfl) (by kernel_rfl) (SumsOk.cons (fn := f13) S13_ok (by kernel_rfl) (by kernel_rfl) (by kernel_rfl) trivial))))
noncomputable def c3a : Code := match backC 2 (bodyOf f3) with | .seq (.seq a _) _ => a | c => c
noncomputable def c3r : Code := match backC 2 (bodyOf f3) with | .seq _ c => c | c => c
theorem split3 : backC 2 (bodyOf f3) = .seq (.seq c3a (.block 0 (.loop (roundOf 0 f3)))) c3r := by kernel_rfl
noncomputable def N3 (z : List Int) (Z : List (List Int)) (cp : Option Nat) : Out := trim 2 2 [0,3] (runs eE3 48 ⟨2, []⟩ 400 (frontC 2 (bodyOf f3)) [(0, .slice 1 0 0 0 (Z.length + 1) cp)] [some ⟨.frows 1 0 (z :: Z) [], 0, false, 23⟩, some ⟨.fam (z :: Z), 0, false, 5⟩] [])
theorem N3_ok {z : List Int} {Z : List (List Int)} {cp : Option Nat} (h : allP []) : Ok (N3 z Z cp) := Ok.dem (fl := []) (by kernel_rfl) (by kernel_rfl) (by kernel_rfl) h
theorem N3_ex {z : List Int} {Z : List (List Int)} {cp : Option Nat} : (N3 z Z cp).ex = .normal := by kernel_rfl
theorem N3_fm {z : List Int} {Z : List (List Int)} {cp : Option Nat} : (N3 z Z cp).fm = [(0, .slice 1 0 0 0 (Z.length + 1) cp), (3, .nilSlice)] := by kernel_rfl
theorem N3_tab {z : List Int} {Z : List (List Int)} {cp : Option Nat} : (N3 z Z cp).tab = [some ⟨AVal.frows 1 0 (z :: Z) [], 0, false, 23⟩, some ⟨AVal.fam (z :: Z), 0, false, 5⟩] := by kernel_rfl
noncomputable def I3 (z : List Int) (Z : List (List Int)) (cp : Option Nat) : Out := trim 2 2 [0,3,4] (run eE3 48 ⟨2, []⟩ 400 c3a [(0, .slice 1 0 0 0 (Z.length + 1) cp), (3, .nilSlice)] [some ⟨.frows 1 0 (z :: Z) [], 0, false, 23⟩, some ⟨.fam (z :: Z), 0, false, 5⟩] [])
theorem I3_ok {z : List Int} {Z : List (List Int)} {cp : Option Nat} (h : allP []) : Ok (I3 z Z cp) := Ok.dem (fl := []) (by kernel_rfl) (by kernel_rfl) (by kernel_rfl) h
theorem I3_ex {z : List Int} {Z : List (List Int)} {cp : Option Nat} : (I3 z Z cp).ex = .normal := by kernel_rfl
theorem I3_fm {z : List Int} {Z : List (List Int)} {cp : Option Nat} : (I3 z Z cp).fm = [(0, .slice 1 0 0 0 (Z.length + 1) cp), (3, .nilSlice), (4, .int .i64 0)] := by kernel_rfl
theorem I3_tab {z : List Int} {Z : List (List Int)} {cp : Option Nat} : (I3 z Z cp).tab = [some ⟨AVal.frows 1 0 (z :: Z) [], 0, false, 23⟩, some ⟨AVal.fam (z :: Z), 0, false, 5⟩] := by kernel_rfl
noncomputable def A3 (z : List Int) (Z : List (List Int)) (cp : Option Nat) : Out := trimG 2 [0,1,4,2] [0,3,4] (run eE3 48 ⟨2, []⟩ 400 (roundOf 0 f3) [(0, .slice 1 0 0 0 (Z.length + 1) cp), (3, .nilSlice), (4, .int .i64 0)] [some ⟨.frows 1 0 (z :: Z) [], 0, false, 23⟩, some ⟨.fam (z :: Z), 0, false, 5⟩] [some true])
theorem A3_ok {z : List Int} {Z : List (List Int)} {cp : Option Nat} (h : allP [.p (decide (0 < (↑(Z.length + 1) : Int)) = true), .leI 1 (↑(Z.length + 1) : Int), .leN 1 (z :: Z).length, .leN z.length 140737488355328]) : Ok (A3 z Z cp) := Ok.dem (fl := bitsF 20 1047389) (by kernel_rfl) (by kernel_rfl) (by kernel_rfl) h
theorem A3_ex {z : List Int} {Z : List (List Int)} {cp : Option Nat} : (A3 z Z cp).ex = .normal := by kernel_rfl
theorem A3_fm {z : List Int} {Z : List (List Int)} {cp : Option Nat} : (A3 z Z cp).fm = [(0, .slice 1 0 0 0 (Z.length + 1) cp), (3, .slice 1 2 0 0 1 none), (4, .int .i64 1)] := by kernel_rfl
theorem A3_tab {z : List Int} {Z : List (List Int)} {cp : Option Nat} : (A3 z Z cp).tab = [some ⟨AVal.frows 1 0 (z :: Z) [], 0, false, 23⟩, some ⟨AVal.fam (z :: Z), 0, false, 5⟩, some ⟨.agg [.slice 1 3 1 0 z.length none], 0, true, 23⟩, some ⟨.ints .u8 ([] ++ z), 1, true, 5⟩] := by kernel_rfl
noncomputable def B3 (z w : List Int) (Z W : List (List Int)) (cp : Option Nat) (i m gx gF : Nat) : Out := trimG 2 [0,1,2,3,4] [0,3,4] (run eE3 48 ⟨2, []⟩ 400 (roundOf 0 f3) [(0, .slice 1 0 0 0 (Z.length + 1) cp), (3, .slice 1 2 gx 0 (m + 1) none), (4, .int .i64 (i : Nat))] [some ⟨.frows 1 0 (z :: Z) [], 0, false, 23⟩, some ⟨.fam (z :: Z), 0, false, 5⟩, some ⟨.frows 3 gF (w :: W) [], gx, true, 23⟩, some ⟨.fam (w :: W), gF, true, 5⟩] [some true])
theorem B3_ok {z w : List Int} {Z W : List (List Int)} {cp : Option Nat} {i m gx gF : Nat} (h : allP [.p (decide ((↑i : Int) < (↑(Z.length + 1) : Int)) = true), .leI 0 (↑i : Int), .leI ((↑i : Int) + 1) (↑(Z.length + 1) : Int), .leN (i + 1) (z :: Z).length, .leN ((z :: Z).getD i []).length 140737488355328, .eqN gx gx, .leN (0 + (m + 1)) (w :: W).length, .leN ((m + 1 + 1) * 24) 140737488355328, .rng
 (-9223372036854775808) ((↑i : Int) + 1) 9223372036854775807]) : Ok (B3 z w Z W cp i m gx gF) := Ok.dem (fl := bitsF 22 1866573) (by kernel_rfl) (by kernel_rfl) (by kernel_rfl) h
theorem B3_ex {z w : List Int} {Z W : List (List Int)} {cp : Option Nat} {i m gx gF : Nat} : (B3 z w Z W cp i m gx gF).ex = .normal := by kernel_rfl
theorem B3_fm {z w : List Int} {Z W : List (List Int)} {cp : Option Nat} {i m gx gF : Nat} : (B3 z w Z W cp i m gx gF).fm = [(0, .slice 1 0 0 0 (Z.length + 1) cp), (3, .slice 1 2 (gx + 1) 0 (m + 1 + 1) none), (4, .int .i64 ((↑i : Int) + 1))] := by kernel_rfl
theorem B3_tab {z w : List Int} {Z W : List (List Int)} {cp : Option Nat} {i m gx gF : Nat} : (B3 z w Z W cp i m gx gF).tab = [some ⟨AVal.frows 1 0 (z :: Z) [], 0, false, 23⟩, some ⟨AVal.fam (z :: Z), 0, false, 5⟩, some ⟨AVal.frows 3 gF (w :: List.take m W) [.slice 1 4 1 0 ((z :: Z).getD i []).length none], gx + 1, true, 23⟩, some ⟨AVal.fam (w :: W), gF, true, 5⟩, some ⟨.ints .u8 ([] ++ (z ::
 Z).getD i []), 1, true, 5⟩] := by kernel_rfl
noncomputable def D3 (z w : List Int) (Z W : List (List Int)) (cp : Option Nat) (i m gx gF : Nat) : Out := trimG 2 [0,1,2,3] [0,3] (run eE3 48 ⟨2, []⟩ 400 (roundOf 0 f3) [(0, .slice 1 0 0 0 (Z.length + 1) cp), (3, .slice 1 2 gx 0 (m + 1) none), (4, .int .i64 (i : Nat))] [some ⟨.frows 1 0 (z :: Z) [], 0, false, 23⟩, some ⟨.fam (z :: Z), 0, false, 5⟩, some ⟨.frows 3 gF (w :: W) [], gx, true, 23⟩, some ⟨.fam (w :: W), gF, true, 5⟩] [some false])
theorem D3_ok {z w : List Int} {Z W : List (List Int)} {cp : Option Nat} {i m gx gF : Nat} (h : allP [.p (decide ((↑i : Int) < (↑(Z.length + 1) : Int)) = false)]) : Ok (D3 z w Z W cp i m gx gF) := Ok.dem (fl := [true, false]) (by kernel_rfl) (by kernel_rfl) (by kernel_rfl) h
theorem D3_ex {z w : List Int} {Z W : List (List Int)} {cp : Option Nat} {i m gx gF : Nat} : (D3 z w Z W cp i m gx gF).ex = .exit 0 := by kernel_rfl
theorem D3_fm {z w : List Int} {Z W : List (List Int)} {cp : Option Nat} {i m gx gF : Nat} : (D3 z w Z W cp i m gx gF).fm = [(0, .slice 1 0 0 0 (Z.length + 1) cp), (3, .slice 1 2 gx 0 (m + 1) none)] := by kernel_rfl
theorem D3_tab {z w : List Int} {Z W : List (List Int)} {cp : Option Nat} {i m gx gF : Nat} : (D3 z w Z W cp i m gx gF).tab = [some ⟨AVal.frows 1 0 (z :: Z) [], 0, false, 23⟩, some ⟨AVal.fam (z :: Z), 0, false, 5⟩, some ⟨AVal.frows 3 gF (w :: W) [], gx, true, 23⟩, some ⟨AVal.fam (w :: W), gF, true, 5⟩] := by kernel_rfl
noncomputable def Z3 (z w : List Int) (Z W : List (List Int)) (cp : Option Nat) (m gx gF : Nat) : Out := trim 2 2 [2] (run eE3 48 ⟨2, []⟩ 400 c3r [(0, .slice 1 0 0 0 (Z.length + 1) cp), (3, .slice 1 2 gx 0 (m + 1) none)] [some ⟨.frows 1 0 (z :: Z) [], 0, false, 23⟩, some ⟨.fam (z :: Z), 0, false, 5⟩, some ⟨.frows 3 gF (w :: W) [], gx, true, 23⟩, some ⟨.fam (w :: W), gF, true, 5⟩] [some true, some true, some true])
theorem Z3_ok {z w : List Int} {Z W : List (List Int)} {cp : Option Nat} {m gx gF : Nat} (h : allP [.eqN gx gx, .eqN gF gF, .eqN (m + 1) (W.length + 1), .leN (jnVLaw (w :: W)).length 140737488355328, .leN (W.length + 1) 140737488355328, .eqN (Z.length + 1) (Z.length + 1), .leN (jnVLaw (z :: Z)).length 140737488355328, .leN (Z.length + 1) 140737488355328, .eqN (jnGLaw (w :: W)) (jnGLaw (w :: W)),
 .leN (0 + (jnLaw (w :: W)).length) (jnLaw (w :: W)).length, .eqN (jnG1Law (z :: Z)) (jnG1Law (z :: Z)), .leN (0 + (jnLaw (z :: Z)).length) (jnLaw (z :: Z)).length, .p ((List.map byteOf (List.take (jnLaw (w :: W)).length (jnLaw (w :: W))) == List.map byteOf (List.take (jnLaw (z :: Z)).length (jnLaw (z :: Z)))) = true), .p ((jnErrLaw (w :: W) == jnErrLaw (z :: Z)) = true), .p (true = true)]) : Ok (Z3
 z w Z W cp m gx gF) := Ok.dem (fl := bitsF 21 384) (by kernel_rfl) (by kernel_rfl) (by kernel_rfl) h
theorem Z3_ex {z w : List Int} {Z W : List (List Int)} {cp : Option Nat} {m gx gF : Nat} : (Z3 z w Z W cp m gx gF).ex = .ret := by kernel_rfl
theorem Z3_fm {z w : List Int} {Z W : List (List Int)} {cp : Option Nat} {m gx gF : Nat} : (Z3 z w Z W cp m gx gF).fm = [(2, .bool true)] := by kernel_rfl
theorem Z3_tab {z w : List Int} {Z W : List (List Int)} {cp : Option Nat} {m gx gF : Nat} : (Z3 z w Z W cp m gx gF).tab = [some ⟨AVal.frows 1 0 (z :: Z) [], 0, false, 23⟩, some ⟨AVal.fam (z :: Z), 0, false, 5⟩] := by kernel_rfl
end Go.Abs

set_option linter.unusedVariables false
set_option linter.unusedSimpArgs false
set_option maxRecDepth 100000
set_option maxHeartbeats 4000000
namespace Go.Abs
open Go.Proofs Go.Proofs.Try
/-! ### CodecJoins: the law -/
def F3 (z : List Int) (Z : List (List Int)) (cp : Option Nat) : Nat → Fm
  | 0 => [(0, .slice 1 0 0 0 (Z.length + 1) cp), (3, .nilSlice), (4, .int .i64 0)]
  | k + 1 => [(0, .slice 1 0 0 0 (Z.length + 1) cp), (3, .slice 1 2 k 0 (k + 1) none), (4, .int .i64 ((k + 1 : Nat) : Int))]
def T3 (z : List Int) (Z : List (List Int)) : Nat → Tab
  | 0 => [some ⟨.frows 1 0 (z :: Z) [], 0, false, 23⟩, some ⟨.fam (z :: Z), 0, false, 5⟩]
  | k + 1 => [some ⟨.frows 1 0 (z :: Z) [], 0, false, 23⟩, some ⟨.fam (z :: Z), 0, false, 5⟩, some ⟨.frows 3 (k + 1) (z :: Z.take k) [], k, true, 23⟩, some ⟨.fam (z :: Z.take k), k + 1, true, 5⟩]
theorem row_le : ∀ {Y : List (List Int)} (k : Nat), (Y.getD k []).length ≤ (jnVLaw Y).length
  | [], k => by simp [jnVLaw]
  | b :: Y, 0 => by simp [jnVLaw, vec1Law]; omega
  | b :: Y, k + 1 => by
    have := row_le (Y := Y) k
    simp only [List.getD_cons_succ, jnVLaw, List.length_append]; omega
theorem round3 {z : List Int} {Z : List (List Int)} {cp : Option Nat} (hn : (jnVLaw (z :: Z)).length ≤ 140737488355328) (hL : (Z.length + 1) * 24 ≤ 140737488355328) : ∀ k, k < Z.length + 1 →
    To eE3 48 2 (roundOf 0 f3) (F3 z Z cp k) (T3 z Z k) .normal (F3 z Z cp (k + 1)) (T3 z Z (k + 1))
  | 0, hk => by
    have hz : z.length ≤ (jnVLaw (z :: Z)).length := row_le (Y := z :: Z) 0
    have h1 : (z :: Z).length = Z.length + 1 := rfl
    have h0 : To eE3 48 2 (roundOf 0 f3) (F3 z Z cp 0) (T3 z Z 0) .normal (A3 z Z cp).fm (A3 z Z cp).tab := To.ofG (o := A3 z Z cp) eE3_ok hmC (Nat.le_refl 2) OrcOk.nil rfl (A3_ok (by
      simp only [allP, Con.h, decide_eq_true_eq, eq_self, true_and, and_true]; omega)) A3_ex rfl rfl
    rw [A3_fm, A3_tab] at h0
    have e : (([] ++ z : List Int).drop 0).take z.length = z := by simp
    have h2 := (h0.conv (Conv.first 5 (x := 2) rfl rfl) (by intro p hp; simp at hp; subst hp; exact ⟨3, _, rfl, rfl⟩)).conv (Conv.absorb (x := 2) (F := 4) (q := 3) rfl rfl rfl (by simp) rfl) (by intro p hp; simp at hp; subst hp; exact ⟨3, _, rfl, rfl⟩)
    rw [e] at h2
    exact h2.gc [0, 1, 2, 4] [0, 3, 4] rfl rfl rfl
  | k + 1, hk => by
    have hz : ((z :: Z).getD (k + 1) []).length ≤ (jnVLaw (z :: Z)).length := row_le (Y := z :: Z) (k + 1)
    have h1 : (z :: Z).length = Z.length + 1 := rfl
    have hl : (Z.take k).length = k := by rw [List.length_take]; omega
    have hlt : (z :: Z.take k).length = k + 1 := by rw [List.length_cons, hl]
    have h0 : To eE3 48 2 (roundOf 0 f3) (F3 z Z cp (k + 1)) (T3 z Z (k + 1)) .normal (B3 z z Z (Z.take k) cp (k + 1) k k (k + 1)).fm (B3 z z Z (Z.take k) cp (k + 1) k k (k + 1)).tab := To.ofG (o := B3 z z Z (Z.take k) cp (k + 1) k k (k + 1)) eE3_ok hmC (Nat.le_refl 2) OrcOk.nil rfl (B3_ok (by
      generalize hr : ((z :: Z).getD (k + 1) []) = row at hz
      simp only [allP, Con.h, decide_eq_true_eq, eq_self, true_and, and_true, hlt]; omega)) B3_ex rfl rfl
    rw [B3_fm, B3_tab] at h0
    have e0 : List.take k (Z.take k) = Z.take k := by rw [List.take_take, Nat.min_self]
    rw [e0] at h0
    have hrow : (z :: Z).getD (k + 1) [] = Z.getD k [] := by simp
    have e : (([] ++ (z :: Z).getD (k + 1) [] : List Int).drop 0).take ((z :: Z).getD (k + 1) []).length = (z :: Z).getD (k + 1) [] := by rw [List.nil_append, List.drop_zero, List.take_length]
    have e2 : (z :: Z.take k) ++ [(z :: Z).getD (k + 1) []] = z :: Z.take (k + 1) := by
      rw [hrow, List.cons_append, List.take_add_one, List.getD_eq_getElem?_getD, List.getElem?_eq_getElem (by omega)]; rfl
    have h2 := h0.conv (Conv.absorb (x := 2) (F := 3) (q := 4) rfl rfl rfl (by simp) rfl) (by intro p hp; simp at hp; subst hp; exact ⟨3, _, rfl, rfl⟩)
    rw [e, e2] at h2
    exact h2.gc [0, 1, 2, 3] [0, 3, 4] rfl rfl rfl
theorem law3 {z : List Int} {Z : List (List Int)} {cp : Option Nat} (hn : (jnVLaw (z :: Z)).length ≤ 140737488355328) (hL : (Z.length + 1) * 24 ≤ 140737488355328) :
    Small prog (fun _ => none) 3 [.slice 1 0 0 0 (Z.length + 1) cp] [some ⟨.frows 1 0 (z :: Z) [], 0, false, 23⟩, some ⟨.fam (z :: Z), 0, false, 5⟩] (.bool true) [some ⟨.frows 1 0 (z :: Z) [], 0, false, 23⟩, some ⟨.fam (z :: Z), 0, false, 5⟩] := by
  refine small_of_awp eE3_ok (f := 3) (fn := f3) (c := bodyOf f3) (by kernel_rfl) (by kernel_rfl) (by kernel_rfl) ?_
  show AWp eE3 48 2 (bodyOf f3) [(0, .slice 1 0 0 0 (Z.length + 1) cp)] [some ⟨.frows 1 0 (z :: Z) [], 0, false, 23⟩, some ⟨.fam (z :: Z), 0, false, 5⟩] _
  refine AWp.cutTG eE3_ok hmC (m := 2) 2 (o := N3 z Z cp) rfl (N3_ok trivial) N3_ex ?_
  rw [split3, N3_fm, N3_tab]
  refine AWp.seq (AWp.seq (AWp.mono (To.of (o := I3 z Z cp) eE3_ok hmC (Nat.le_refl 2) OrcOk.nil rfl (I3_ok trivial) I3_ex I3_fm I3_tab) fun ex fm T hP => ?_))
  obtain ⟨rfl, rfl, rfl⟩ := hP
  have ht : Z.take Z.length = Z := List.take_length
  refine AWp.mono (To.rounds (E := eE3) (n := 48) (k := 2) (id := 0) (c := roundOf 0 f3) (F3 z Z cp) (T3 z Z) (Z.length + 1) (round3 hn hL) (fm' := [(0, .slice 1 0 0 0 (Z.length + 1) cp), (3, .slice 1 2 Z.length 0 (Z.length + 1) none)]) (T' := [some ⟨.frows 1 0 (z :: Z) [], 0, false, 23⟩, some ⟨.fam (z :: Z), 0, false, 5⟩, some ⟨.frows 3 (Z.length + 1) (z :: Z) [], Z.length, true, 23⟩, some ⟨.fam (z :: Z), (Z.length + 1), true, 5⟩]) ?_) fun ex fm T hP => ?_
  · have h0 : To eE3 48 2 (roundOf 0 f3) (F3 z Z cp (Z.length + 1)) (T3 z Z (Z.length + 1)) (.exit 0) (D3 z z Z (Z.take Z.length) cp (Z.length + 1) Z.length Z.length (Z.length + 1)).fm (D3 z z Z (Z.take Z.length) cp (Z.length + 1) Z.length Z.length (Z.length + 1)).tab := To.ofG (o := D3 z z Z (Z.take Z.length) cp (Z.length + 1) Z.length Z.length (Z.length + 1)) eE3_ok hmC (Nat.le_refl 2) OrcOk.nil rfl (D3_ok (by simp [allP, Con.h])) D3_ex rfl rfl
    rw [D3_fm, D3_tab, ht] at h0
    exact h0
  obtain ⟨rfl, rfl, rfl⟩ := hP
  refine AWp.mono (To.of (o := Z3 z z Z Z cp Z.length Z.length (Z.length + 1)) eE3_ok hmC (Nat.le_refl 2) OrcOk.nil rfl (Z3_ok ?_) Z3_ex Z3_fm Z3_tab) fun ex fm T hP => ?_
  · simp only [allP, Con.h, Nat.zero_add, Nat.le_refl, beq_self_eq_true, eq_self, true_and, and_true]
    omega
  obtain ⟨rfl, rfl, rfl⟩ := hP
  exact ⟨.inr rfl, rfl, [], [.bool true], rfl, trivial, rfl⟩
end Go.Abs

set_option linter.unusedVariables false
set_option linter.unusedSimpArgs false
set_option maxRecDepth 100000
set_option maxHeartbeats 4000000
namespace Go.Abs
open Go.Proofs Go.Proofs.Try
/-! ### CodecJoins: of no slices -/
noncomputable def S38e : Summary := sumI modeO (eC0 []) f38 [] 400 [some false] []
theorem S38e_ok : SumOk prog (fun _ => none) 38 S38e := sumI_ok eC0_ok hmC (fn := f38) (by kernel_rfl) (by kernel_rfl) [] FnOrc.nil 400 [some false] []
noncomputable def S10e : Summary := sumI modeO (eC0 []) f10 [] 400 [some false] []
theorem S10e_ok : SumOk prog (fun _ => none) 10 S10e := sumI_ok eC0_ok hmC (fn := f10) (by kernel_rfl) (by kernel_rfl) [] FnOrc.nil 400 [some false] []
noncomputable def eE4 : Env := eC0 [(38, S38e)]
theorem eE4_ok : EnvOk eE4 := envOf_ok tysC_ok (SumsOk.cons (fn := f38) S38e_ok (by kernel_rfl) (by kernel_rfl) (by kernel_rfl) trivial)
noncomputable def S11e : Summary := sumI modeO eE4 f11 [] 400 [some false] []
theorem S11e_ok : SumOk prog (fun _ => none) 11 S11e := sumI_ok eE4_ok hmC (fn := f11) (by kernel_rfl) (by kernel_rfl) [] FnOrc.nil 400 [some false] []
noncomputable def eE5 : Env := eC0 [(10, S10e), (11, S11e), (12, S12), (13, S13)]
theorem eE5_ok : EnvOk eE5 := envOf_ok tysC_ok (SumsOk.cons (fn := f10) S10e_ok (by kernel_rfl) (by kernel_rfl) (by kernel_rfl) (SumsOk.cons (fn := f11) S11e_ok (by kernel_rfl) (by kernel_rfl) (by kernel_rfl) (SumsOk.cons (fn := f12) S12_ok (by kernel_rfl) (by kernel_rfl) (by kernel_rfl) (SumsOk.cons (fn := f13) S13_ok (by kernel_rfl) (by kernel_rfl) (by kernel_rfl) trivial))))
noncomputable def R3e (cp : Option Nat) : Res := runF eE5 f3 [] 400 [.slice 1 0 0 0 0 cp] [some ⟨.agg [], 0, false, 23⟩] [some false, some true, some true, some true]
theorem R3e_ok {cp : Option Nat} (h : allP [.p (false = false), .p (false = false), .p (false = false), .p (false = false), .p (true = true), .p (true = true), .p (true = true)]) : OkR (R3e cp) := OkR.dem (fl := bitsF 12 217) (by kernel_rfl) (by kernel_rfl) (by kernel_rfl) h
theorem R3e_val {cp : Option Nat} : (R3e cp).val = .bool true := by kernel_rfl
theorem R3e_tab {cp : Option Nat} : (R3e cp).tab = [some ⟨.agg [], 0, false, 23⟩] := by kernel_rfl
theorem law3e {cp : Option Nat} : Small prog (fun _ => none) 3 [.slice 1 0 0 0 0 cp] [some ⟨.agg [], 0, false, 23⟩] (.bool true) [some ⟨.agg [], 0, false, 23⟩] :=
  small_of (R := R3e cp) eE5_ok hmC (f := 3) (fn := f3) (by kernel_rfl) (by kernel_rfl) FnOrc.nil rfl (R3e_ok (by simp [allP, Con.h])) R3e_val R3e_tab
theorem bulk_jn : ∀ (Y : List (List Int)), (jnVLaw Y).length ≤ (Y.map List.length).sum + 4 * Y.length
  | [] => by simp [jnVLaw]
  | b :: Y => by
    have h1 := bulk_jn Y
    have h2 := lenLaw_len b.length
    simp only [jnVLaw, vec1Law, List.length_append, List.map_cons, List.sum_cons, List.length_cons]
    omega
end Go.Abs
