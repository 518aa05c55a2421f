/- What functions of the given program come to, by the abstract machine: texts of a proof. -/
import Derived.Test.YtmfacmccilipfaaAbs2
import Derived.Test.YtmfacmccilipfaaProg
import Derived.KernelRfl
import Derived.RecoverIn
import Derived.TacticsIn
import Derived.Laws.Pointers
set_option linter.unusedVariables false
namespace Go.Abs
def tysN : List (Nat × Ty) := [
(1, ⟨.func, 1, 8, .nilFunc⟩),
(2, ⟨(.int .i64), 1, 8, (.int .i64 0)⟩),
(3, ⟨(.int .i64), 1, 8, (.int .i64 0)⟩),
(4, ⟨.bool, 1, 1, (.bool false)⟩),
(5, ⟨(.int .u8), 1, 1, (.int .u8 0)⟩),
(6, ⟨(.int .u8), 1, 1, (.int .u8 0)⟩),
(7, ⟨(.struct [(0, 2), (1, 3), (2, 4), (3, 6)]), 4, 24, (.agg [(.int .i64 0), (.int .i64 0), (.bool false), (.int .u8 0)])⟩),
(8, ⟨(.struct [(0, 2), (1, 3), (2, 4), (3, 6)]), 4, 24, (.agg [(.int .i64 0), (.int .i64 0), (.bool false), (.int .u8 0)])⟩),
(9, ⟨.str, 1, 16, (.str [])⟩),
(10, ⟨.str, 1, 16, (.str [])⟩),
(11, ⟨.str, 1, 16, (.str [])⟩),
(12, ⟨(.int .u64), 1, 8, (.int .u64 0)⟩),
(13, ⟨(.struct [(0, 9), (1, 12)]), 2, 24, (.agg [(.str []), (.int .u64 0)])⟩),
(14, ⟨(.struct [(0, 9), (1, 12)]), 2, 24, (.agg [(.str []), (.int .u64 0)])⟩),
(15, ⟨(.ptr 128), 1, 8, .nilPtr⟩),
(16, ⟨(.ptr 131), 1, 8, .nilPtr⟩),
(17, ⟨(.ptr 140), 1, 8, .nilPtr⟩),
(18, ⟨(.struct [(0, 17)]), 1, 8, (.agg [.nilPtr])⟩),
(19, ⟨(.struct [(0, 17)]), 1, 8, (.agg [.nilPtr])⟩),
(20, ⟨.iface, 1, 16, .nilIface⟩),
(21, ⟨(.int .i32), 1, 4, (.int .i32 0)⟩),
(22, ⟨(.slice 5), 1, 24, .nilSlice⟩),
(23, ⟨(.struct [(0, 22), (1, 22), (2, 22), (3, 3), (4, 22), (5, 22)]), 6, 128, (.agg [.nilSlice, .nilSlice, .nilSlice, (.int .i64 0), .nilSlice, .nilSlice])⟩),
(24, ⟨(.struct [(0, 22), (1, 22), (2, 22), (3, 3), (4, 22), (5, 22)]), 6, 128, (.agg [.nilSlice, .nilSlice, .nilSlice, (.int .i64 0), .nilSlice, .nilSlice])⟩),
(25, ⟨.func, 1, 8, .nilFunc⟩),
(26, ⟨(.struct [(0, 22), (1, 22), (2, 22), (3, 3), (4, 22), (5, 22)]), 6, 128, (.agg [.nilSlice, .nilSlice, .nilSlice, (.int .i64 0), .nilSlice, .nilSlice])⟩),
(27, ⟨.func, 1, 8, .nilFunc⟩),
(28, ⟨(.int .i64), 1, 8, (.int .i64 0)⟩),
(30, ⟨.func, 1, 8, .nilFunc⟩),
(32, ⟨.func, 1, 8, .nilFunc⟩),
(34, ⟨.func, 1, 8, .nilFunc⟩),
(36, ⟨.func, 1, 8, .nilFunc⟩),
(37, ⟨.func, 1, 8, .nilFunc⟩),
(38, ⟨.func, 1, 8, .nilFunc⟩),
(39, ⟨.func, 1, 8, .nilFunc⟩),
(40, ⟨.func, 1, 8, .nilFunc⟩),
(41, ⟨.func, 1, 8, .nilFunc⟩),
(42, ⟨.func, 1, 8, .nilFunc⟩),
(43, ⟨.func, 1, 8, .nilFunc⟩),
(44, ⟨(.slice 3), 1, 24, .nilSlice⟩),
(45, ⟨(.struct [(0, 22), (1, 22), (2, 44)]), 3, 72, (.agg [.nilSlice, .nilSlice, .nilSlice])⟩),
(46, ⟨(.struct [(0, 22), (1, 22), (2, 44)]), 3, 72, (.agg [.nilSlice, .nilSlice, .nilSlice])⟩),
(47, ⟨(.struct [(0, 22), (1, 22), (2, 44)]), 3, 72, (.agg [.nilSlice, .nilSlice, .nilSlice])⟩),
(48, ⟨.func, 1, 8, .nilFunc⟩),
(49, ⟨.func, 1, 8, .nilFunc⟩),
(50, ⟨.func, 1, 8, .nilFunc⟩),
(52, ⟨.func, 1, 8, .nilFunc⟩),
(54, ⟨.func, 1, 8, .nilFunc⟩),
(55, ⟨.func, 1, 8, .nilFunc⟩),
(56, ⟨.func, 1, 8, .nilFunc⟩),
(57, ⟨(.struct [(0, 22), (1, 24), (7, 22)]), 8, 176, (.agg [.nilSlice, .nilSlice, .nilSlice, .nilSlice, (.int .i64 0), .nilSlice, .nilSlice, .nilSlice])⟩),
(58, ⟨(.struct [(0, 22), (1, 24), (7, 22)]), 8, 176, (.agg [.nilSlice, .nilSlice, .nilSlice, .nilSlice, (.int .i64 0), .nilSlice, .nilSlice, .nilSlice])⟩),
(59, ⟨(.struct [(0, 22), (1, 26), (7, 22)]), 8, 176, (.agg [.nilSlice, .nilSlice, .nilSlice, .nilSlice, (.int .i64 0), .nilSlice, .nilSlice, .nilSlice])⟩),
(60, ⟨(.struct [(0, 22), (1, 26), (7, 22)]), 8, 176, (.agg [.nilSlice, .nilSlice, .nilSlice, .nilSlice, (.int .i64 0), .nilSlice, .nilSlice, .nilSlice])⟩),
(61, ⟨.func, 1, 8, .nilFunc⟩),
(62, ⟨.func, 1, 8, .nilFunc⟩),
(63, ⟨.func, 1, 8, .nilFunc⟩),
(65, ⟨.func, 1, 8, .nilFunc⟩),
(67, ⟨.func, 1, 8, .nilFunc⟩),
(68, ⟨.func, 1, 8, .nilFunc⟩),
(69, ⟨.func, 1, 8, .nilFunc⟩),
(70, ⟨.func, 1, 8, .nilFunc⟩),
(71, ⟨.func, 1, 8, .nilFunc⟩),
(72, ⟨.func, 1, 8, .nilFunc⟩),
(73, ⟨.func, 1, 8, .nilFunc⟩),
(74, ⟨(.ptr 28), 1, 8, .nilPtr⟩),
(75, ⟨(.ptr 81), 1, 8, .nilPtr⟩),
(76, ⟨.func, 1, 8, .nilFunc⟩),
(77, ⟨.func, 1, 8, .nilFunc⟩),
(78, ⟨.func, 1, 8, .nilFunc⟩),
(79, ⟨.func, 1, 8, .nilFunc⟩),
(80, ⟨(.struct [(0, 22), (1, 78), (2, 79)]), 3, 40, (.agg [.nilSlice, .nilFunc, .nilFunc])⟩),
(81, ⟨(.struct [(0, 22), (1, 78), (2, 79)]), 3, 40, (.agg [.nilSlice, .nilFunc, .nilFunc])⟩),
(82, ⟨.func, 1, 8, .nilFunc⟩),
(83, ⟨.func, 1, 8, .nilFunc⟩),
(84, ⟨(.ptr 115), 1, 8, .nilPtr⟩),
(85, ⟨.func, 1, 8, .nilFunc⟩),
(86, ⟨.func, 1, 8, .nilFunc⟩),
(87, ⟨.func, 1, 8, .nilFunc⟩),
(88, ⟨(.ptr 118), 1, 8, .nilPtr⟩),
(89, ⟨.func, 1, 8, .nilFunc⟩),
(90, ⟨.func, 1, 8, .nilFunc⟩),
(91, ⟨.func, 1, 8, .nilFunc⟩),
(92, ⟨.func, 1, 8, .nilFunc⟩),
(93, ⟨.func, 1, 8, .nilFunc⟩),
(94, ⟨.func, 1, 8, .nilFunc⟩),
(95, ⟨.func, 1, 8, .nilFunc⟩),
(96, ⟨.func, 1, 8, .nilFunc⟩),
(97, ⟨.func, 1, 8, .nilFunc⟩),
(98, ⟨.func, 1, 8, .nilFunc⟩),
(99, ⟨.func, 1, 8, .nilFunc⟩),
(100, ⟨.func, 1, 8, .nilFunc⟩),
(102, ⟨.func, 1, 8, .nilFunc⟩),
(103, ⟨.func, 1, 8, .nilFunc⟩),
(104, ⟨.func, 1, 8, .nilFunc⟩),
(105, ⟨.func, 1, 8, .nilFunc⟩),
(106, ⟨.func, 1, 8, .nilFunc⟩),
(107, ⟨.func, 1, 8, .nilFunc⟩),
(108, ⟨.func, 1, 8, .nilFunc⟩),
(109, ⟨(.slice 22), 1, 24, .nilSlice⟩),
(110, ⟨.func, 1, 8, .nilFunc⟩),
(111, ⟨.func, 1, 8, .nilFunc⟩),
(112, ⟨.func, 1, 8, .nilFunc⟩),
(113, ⟨.func, 1, 8, .nilFunc⟩),
(114, ⟨(.struct [(0, 22), (1, 28), (2, 4)]), 3, 40, (.agg [.nilSlice, (.int .i64 0), (.bool false)])⟩),
(115, ⟨(.struct [(0, 22), (1, 28), (2, 4)]), 3, 40, (.agg [.nilSlice, (.int .i64 0), (.bool false)])⟩),
(116, ⟨.func, 1, 8, .nilFunc⟩),
(117, ⟨(.struct [(0, 22), (1, 3), (2, 3)]), 3, 40, (.agg [.nilSlice, (.int .i64 0), (.int .i64 0)])⟩),
(118, ⟨(.struct [(0, 22), (1, 3), (2, 3)]), 3, 40, (.agg [.nilSlice, (.int .i64 0), (.int .i64 0)])⟩),
(119, ⟨.func, 1, 8, .nilFunc⟩),
(120, ⟨.func, 1, 8, .nilFunc⟩),
(121, ⟨.func, 1, 8, .nilFunc⟩),
(122, ⟨.func, 1, 8, .nilFunc⟩),
(123, ⟨(.int .u64), 1, 8, (.int .u64 0)⟩),
(124, ⟨.func, 1, 8, .nilFunc⟩),
(125, ⟨.func, 1, 8, .nilFunc⟩),
(126, ⟨.func, 1, 8, .nilFunc⟩),
(127, ⟨(.struct [(0, 17), (1, 17), (2, 17), (3, 9)]), 4, 40, (.agg [.nilPtr, .nilPtr, .nilPtr, (.str [])])⟩),
(128, ⟨(.struct [(0, 17), (1, 17), (2, 17), (3, 9)]), 4, 40, (.agg [.nilPtr, .nilPtr, .nilPtr, (.str [])])⟩),
(129, ⟨(.array 0 16), 0, 0, (.agg [])⟩),
(130, ⟨(.struct [(0, 129)]), 0, 0, (.agg [])⟩),
(131, ⟨(.struct [(0, 129)]), 0, 0, (.agg [])⟩),
(132, ⟨(.int .u32), 1, 4, (.int .u32 0)⟩),
(133, ⟨(.int .u8), 1, 1, (.int .u8 0)⟩),
(134, ⟨(.int .u8), 1, 1, (.int .u8 0)⟩),
(135, ⟨.func, 1, 8, .nilFunc⟩),
(136, ⟨(.ptr 5), 1, 8, .nilPtr⟩),
(137, ⟨(.int .i32), 1, 4, (.int .i32 0)⟩),
(138, ⟨(.int .i32), 1, 4, (.int .i32 0)⟩),
(139, ⟨(.struct [(0, 12), (1, 12), (2, 132), (3, 133), (4, 5), (5, 5), (6, 134), (7, 135), (8, 136), (9, 137), (10, 138)]), 11, 48, (.agg [(.int .u64 0), (.int .u64 0), (.int .u32 0), (.int .u8 0), (.int .u8 0), (.int .u8 0), (.int .u8 0), .nilFunc, .nilPtr, (.int .i32 0), (.int .i32 0)])⟩),
(140, ⟨(.struct [(0, 12), (1, 12), (2, 132), (3, 133), (4, 5), (5, 5), (6, 134), (7, 135), (8, 136), (9, 137), (10, 138)]), 11, 48, (.agg [(.int .u64 0), (.int .u64 0), (.int .u32 0), (.int .u8 0), (.int .u8 0), (.int .u8 0), (.int .u8 0), .nilFunc, .nilPtr, (.int .i32 0), (.int .i32 0)])⟩),
(141, ⟨.other, 1, 8, .nilPtr⟩)]
theorem tysN_ok : TysOk Go.Proofs.Try.prog tysN := by
  refine ⟨?_, ?_, ?_, ?_, ?_, ?_, ?_, ?_, ?_, ?_, ?_, ?_, ?_, ?_, ?_, ?_, ?_, ?_, ?_, ?_, ?_, ?_, ?_, ?_, ?_, ?_, ?_, ?_, ?_, ?_, ?_, ?_, ?_, ?_, ?_, ?_, ?_, ?_, ?_, ?_, ?_, ?_, ?_, ?_, ?_, ?_, ?_, ?_, ?_, ?_, ?_, ?_, ?_, ?_, ?_, ?_, ?_, ?_, ?_, ?_, ?_, ?_, ?_, ?_, ?_, ?_, ?_, ?_, ?_, ?_, ?_, ?_, ?_, ?_, ?_, ?_, ?_, ?_, ?_, ?_, ?_, ?_, ?_, ?_, ?_, ?_, ?_, ?_, ?_, ?_, ?_, ?_, ?_, ?_, ?_, ?_, ?_, ?_, ?_, ?_, ?_, ?_, ?_, ?_, ?_, ?_, ?_, ?_, ?_, ?_, ?_, ?_, ?_, ?_, ?_, ?_, ?_, ?_, ?_, ?_, ?_, ?_, ?_, ?_, ?_, ?_, ?_, ?_, ?_, ?_, ?_, ?_, trivial⟩ <;> kernel_rfl
noncomputable def eN0 (fns : List (Nat × Summary)) : Env := envOf Go.Proofs.Try.prog tysN fns (fun _ => none)
theorem hmN : Go.Proofs.Try.prog.follows .mixedOrders = true := by kernel_rfl
theorem eN0_ok : EnvOk (eN0 []) := envOf_ok tysN_ok trivial
end Go.Abs

set_option linter.unusedVariables false
set_option linter.unusedSimpArgs false
namespace Go.Abs
open Go.Proofs.Try
theorem und20 : prog.underlying 20 = some (.interface #[]) := by kernel_rfl
theorem und28 : prog.underlying 28 = some (.int .i64) := by kernel_rfl
theorem caught_ret (p : Value) (w : World) : CallsDIn Fence.wide 0 prog 36 #[p] .returning w fun e u' w' => e = .returned (.tuple #[]) ∧ u' = .returning ∧ w' = w := by
  refine callsDIn_of_wpSIn func36 rfl trivial fun c₀ cs hu => ?_
  apply wpSIn_seq
  apply wpSIn_region
  simp [wpOpsSIn, go_sem, recoverD, hu, ntmps36, Exit.thenS]
  apply wpSIn_seq
  apply wpSIn_region
  simp [wpOpsSIn, go_sem, recoverD, hu, ntmps36, Exit.thenS, und20, Array.replicate]
  refine wpSIn_cond (t := false) (by simp [Act.eval]) ?_
  simp only [Bool.false_eq_true, if_false]
  refine wpSIn_of_wpIn rfl (wpIn_skip ?_)
  cases c₀
  simp_all [bodyPostS, results, results36]
theorem assert28 (m : Int) (w : World) : (Instr.typeAssert (.iface 28 (.int .i64 m)) 20 28 false).run prog w = .ok (.int .i64 m) w := by
  unfold Instr.typeAssert
  simp [und28]
theorem caught_pan (a : Addr) (m : Int) (w w' : World) (h : (Instr.storeAt 28 (.pointer (some a)) (.int .i64 m)).run prog w = .ok () w') :
    CallsDIn Fence.wide 0 prog 36 #[.pointer (some a)] (.panicking [{ v := .iface 28 (.int .i64 m), recovered := false }]) w fun e u' w'' => e = .returned (.tuple #[]) ∧ u' = .panicking [{ v := .iface 28 (.int .i64 m), recovered := true }] ∧ w'' = w' := by
  refine callsDIn_of_wpSIn func36 rfl trivial fun c₀ cs hu => ?_
  apply wpSIn_seq
  apply wpSIn_region
  simp [wpOpsSIn, go_sem, recoverD, hu, ntmps36, Exit.thenS]
  apply wpSIn_seq
  apply wpSIn_region
  simp [wpOpsSIn, go_sem, recoverD, hu, ntmps36, Exit.thenS, und20, Array.replicate]
  refine wpSIn_cond (t := true) (by simp [Act.eval]) ?_
  simp only [if_true]
  apply wpSIn_region
  simp [wpOpsSIn, go_sem, bodyPostS, results, results36, assert28]
  simp [go_sem] at h
  simp [h]
theorem caughtN : CaughtOk prog 36 28 .i64 := ⟨caught_ret, caught_pan⟩
end Go.Abs

set_option linter.unusedVariables false
set_option linter.unusedSimpArgs false
set_option maxRecDepth 8000
namespace Go.Abs
open Go.Proofs.Try
noncomputable def S35 : Summary := sumI modeO (eN0 []) f78 [] 100 [] []
theorem S35_ok : SumOk prog (fun _ => none) 78 S35 := sumI_ok eN0_ok hmN (fn := f78) (by kernel_rfl) (by kernel_rfl) [] FnOrc.nil 100 [] []
noncomputable def S44 : Summary := sumI modeO (eN0 []) f74 [] 100 [] []
theorem S44_ok : SumOk prog (fun _ => none) 74 S44 := sumI_ok eN0_ok hmN (fn := f74) (by kernel_rfl) (by kernel_rfl) [] FnOrc.nil 100 [] []
noncomputable def S39 : Summary := sumI modeO (eN0 []) f82 [] 100 [] []
theorem S39_ok : SumOk prog (fun _ => none) 82 S39 := sumI_ok eN0_ok hmN (fn := f82) (by kernel_rfl) (by kernel_rfl) [] FnOrc.nil 100 [] []
noncomputable def S40 : Summary := sumI modeO (eN0 []) f90 [] 400 [] []
theorem S40_ok : SumOk prog (fun _ => none) 90 S40 := sumI_ok eN0_ok hmN (fn := f90) (by kernel_rfl) (by kernel_rfl) [] FnOrc.nil 400 [] []
noncomputable def S45 : Summary := sumI modeO (eN0 []) f83 [] 400 [] []
theorem S45_ok : SumOk prog (fun _ => none) 83 S45 := sumI_ok eN0_ok hmN (fn := f83) (by kernel_rfl) (by kernel_rfl) [] FnOrc.nil 400 [] []
noncomputable def eC1 : Env := eN0 [(78, S35), (74, S44), (82, S39), (90, S40), (83, S45)]
theorem eC1_ok : EnvOk eC1 := envOf_ok tysN_ok (SumsOk.cons (fn := f78) S35_ok (by kernel_rfl) (by kernel_rfl) (by kernel_rfl) (SumsOk.cons (fn := f74) S44_ok (by kernel_rfl) (by kernel_rfl) (by kernel_rfl) (SumsOk.cons (fn := f82) S39_ok (by kernel_rfl) (by kernel_rfl) (by kernel_rfl) (SumsOk.cons (fn := f90) S40_ok (by kernel_rfl) (by kernel_rfl) (by kernel_rfl) (SumsOk.cons (fn := f83) S45_ok (by kernel_rfl) (by kernel_rfl) (by kernel_rfl) trivial)))))
end Go.Abs

set_option linter.unusedVariables false
set_option linter.unusedSimpArgs false
set_option maxRecDepth 8000
namespace Go.Abs
open Go.Proofs.Try
end Go.Abs

set_option linter.unusedVariables false
set_option linter.unusedSimpArgs false
set_option maxRecDepth 8000
namespace Go.Abs
open Go.Proofs.Try
end Go.Abs

set_option linter.unusedVariables false
set_option linter.unusedSimpArgs false
set_option maxRecDepth 8000
namespace Go.Abs
open Go.Proofs.Try
/-! ### numbers as bytes: of the program -/
noncomputable def S39x : Summary := sumI modeO (eN0 []) f82 [] 100 [some false, some false, some false, some false] []
theorem S39x_ok : SumOk prog (fun _ => none) 82 S39x := sumI_ok eN0_ok hmN (fn := f82) (by kernel_rfl) (by kernel_rfl) [] FnOrc.nil 100 [some false, some false, some false, some false] []
noncomputable def eC1x : Env := eN0 [(82, S39x), (90, S40)]
theorem eC1x_ok : EnvOk eC1x := envOf_ok tysN_ok (SumsOk.cons (fn := f82) S39x_ok (by kernel_rfl) (by kernel_rfl) (by kernel_rfl) (SumsOk.cons (fn := f90) S40_ok (by kernel_rfl) (by kernel_rfl) (by kernel_rfl) trivial))
noncomputable def R16x (n size : Int) : Res := runF eC1x f73 [] 400 [.int .i64 n, .int .i64 size] [] []
theorem R16x_ok {n size : Int} (h : allP [.p ((size == 1) = false), .p ((size == 2) = false), .p ((size == 4) = false), .p ((size == 8) = false)]) : OkR (R16x n size) := OkR.dem (fl := [false, false, false, false]) (by kernel_rfl) (by kernel_rfl) (by kernel_rfl) h
theorem R16x_val {n size : Int} : (R16x n size).val = .tuple [.nilSlice, .int .i64 1] := by kernel_rfl
theorem R16x_tab {n size : Int} : (R16x n size).tab = [] := by kernel_rfl
noncomputable def R16_1 (n : Int) : Res := runF eC1 f73 [] 400 [.int .i64 n, .int .i64 1] [] [none, some false, some false]
theorem R16_1_ok {n : Int} (h : allP [.p (decide (n < 0) = false), .p ((n / 256 != 0) = false)]) : OkR (R16_1 n) := OkR.dem (fl := bitsF 20 1048565) (by kernel_rfl) (by kernel_rfl) (by kernel_rfl) h
theorem R16_1_val {n : Int} : (R16_1 n).val = .tuple [.slice 1 0 0 0 1 (some 1), .int .i64 0] := by kernel_rfl
theorem R16_1_tab {n : Int} : (R16_1 n).tab = [some ⟨.ints .u8 [n / 1 % 256], 0, true, 5⟩] := by kernel_rfl
noncomputable def R16_2 (n : Int) : Res := runF eC1 f73 [] 400 [.int .i64 n, .int .i64 2] [] [none, some false, some false]
theorem R16_2_ok {n : Int} (h : allP [.p (decide (n < 0) = false), .p ((n / 65536 != 0) = false)]) : OkR (R16_2 n) := OkR.dem (fl := bitsF 32 4294967285) (by kernel_rfl) (by kernel_rfl) (by kernel_rfl) h
theorem R16_2_val {n : Int} : (R16_2 n).val = .tuple [.slice 1 0 0 0 2 (some 2), .int .i64 0] := by kernel_rfl
theorem R16_2_tab {n : Int} : (R16_2 n).tab = [some ⟨.ints .u8 [n / 256 % 256, n / 1 % 256], 0, true, 5⟩] := by kernel_rfl
noncomputable def R16_4 (n : Int) : Res := runF eC1 f73 [] 400 [.int .i64 n, .int .i64 4] [] [none, some false, some false]
theorem R16_4_ok {n : Int} (h : allP [.p (decide (n < 0) = false), .p ((n / 4294967296 != 0) = false)]) : OkR (R16_4 n) := OkR.dem (fl := bitsF 56 72057594037927925) (by kernel_rfl) (by kernel_rfl) (by kernel_rfl) h
theorem R16_4_val {n : Int} : (R16_4 n).val = .tuple [.slice 1 0 0 0 4 (some 4), .int .i64 0] := by kernel_rfl
theorem R16_4_tab {n : Int} : (R16_4 n).tab = [some ⟨.ints .u8 [n / 16777216 % 256, n / 65536 % 256, n / 256 % 256, n / 1 % 256], 0, true, 5⟩] := by kernel_rfl
noncomputable def R16_8 (n : Int) : Res := runF eC1 f73 [] 400 [.int .i64 n, .int .i64 8] [] [none, some false, some false]
theorem R16_8_ok {n : Int} (h : allP [.p (decide (n < 0) = false), .p ((n / 4611686018427387904 != 0) = false)]) : OkR (R16_8 n) := OkR.dem (fl := bitsF 103 10141204801825835211973625643002) (by kernel_rfl) (by kernel_rfl) (by kernel_rfl) h
theorem R16_8_val {n : Int} : (R16_8 n).val = .tuple [.slice 1 0 0 0 8 (some 8), .int .i64 0] := by kernel_rfl
theorem R16_8_tab {n : Int} : (R16_8 n).tab = [some ⟨.ints .u8 [n / 72057594037927936 % 256, n / 281474976710656 % 256, n / 1099511627776 % 256, n / 4294967296 % 256, n / 16777216 % 256, n / 65536 % 256, n / 256 % 256, n / 1 % 256], 0, true, 5⟩] := by kernel_rfl
noncomputable def R16n_1 (n : Int) : Res := runF eC1 f73 [] 400 [.int .i64 n, .int .i64 1] [] [none, some true]
theorem R16n_1_ok {n : Int} (h : allP [.p (decide (n < 0) = true)]) : OkR (R16n_1 n) := OkR.dem (fl := [true, false]) (by kernel_rfl) (by kernel_rfl) (by kernel_rfl) h
theorem R16n_1_val {n : Int} : (R16n_1 n).val = .tuple [.nilSlice, .int .i64 11] := by kernel_rfl
theorem R16n_1_tab {n : Int} : (R16n_1 n).tab = [] := by kernel_rfl
noncomputable def R16n_2 (n : Int) : Res := runF eC1 f73 [] 400 [.int .i64 n, .int .i64 2] [] [none, some true]
theorem R16n_2_ok {n : Int} (h : allP [.p (decide (n < 0) = true)]) : OkR (R16n_2 n) := OkR.dem (fl := [true, false]) (by kernel_rfl) (by kernel_rfl) (by kernel_rfl) h
theorem R16n_2_val {n : Int} : (R16n_2 n).val = .tuple [.nilSlice, .int .i64 11] := by kernel_rfl
theorem R16n_2_tab {n : Int} : (R16n_2 n).tab = [] := by kernel_rfl
noncomputable def R16n_4 (n : Int) : Res := runF eC1 f73 [] 400 [.int .i64 n, .int .i64 4] [] [none, some true]
theorem R16n_4_ok {n : Int} (h : allP [.p (decide (n < 0) = true)]) : OkR (R16n_4 n) := OkR.dem (fl := [true, false]) (by kernel_rfl) (by kernel_rfl) (by kernel_rfl) h
theorem R16n_4_val {n : Int} : (R16n_4 n).val = .tuple [.nilSlice, .int .i64 11] := by kernel_rfl
theorem R16n_4_tab {n : Int} : (R16n_4 n).tab = [] := by kernel_rfl
noncomputable def R16n_8 (n : Int) : Res := runF eC1 f73 [] 400 [.int .i64 n, .int .i64 8] [] [none, some true]
theorem R16n_8_ok {n : Int} (h : allP [.p (decide (n < 0) = true)]) : OkR (R16n_8 n) := OkR.dem (fl := [false]) (by kernel_rfl) (by kernel_rfl) (by kernel_rfl) h
theorem R16n_8_val {n : Int} : (R16n_8 n).val = .tuple [.nilSlice, .int .i64 11] := by kernel_rfl
theorem R16n_8_tab {n : Int} : (R16n_8 n).tab = [] := by kernel_rfl
noncomputable def R16g_1 (n : Int) : Res := runF eC1 f73 [] 400 [.int .i64 n, .int .i64 1] [] [none, some false, some true]
theorem R16g_1_ok {n : Int} (h : allP [.p (decide (n < 0) = false), .p ((n / 256 != 0) = true)]) : OkR (R16g_1 n) := OkR.dem (fl := [true, false, true, false]) (by kernel_rfl) (by kernel_rfl) (by kernel_rfl) h
theorem R16g_1_val {n : Int} : (R16g_1 n).val = .tuple [.nilSlice, .int .i64 11] := by kernel_rfl
theorem R16g_1_tab {n : Int} : (R16g_1 n).tab = [] := by kernel_rfl
noncomputable def R16g_2 (n : Int) : Res := runF eC1 f73 [] 400 [.int .i64 n, .int .i64 2] [] [none, some false, some true]
theorem R16g_2_ok {n : Int} (h : allP [.p (decide (n < 0) = false), .p ((n / 65536 != 0) = true)]) : OkR (R16g_2 n) := OkR.dem (fl := [true, false, true, false]) (by kernel_rfl) (by kernel_rfl) (by kernel_rfl) h
theorem R16g_2_val {n : Int} : (R16g_2 n).val = .tuple [.nilSlice, .int .i64 11] := by kernel_rfl
theorem R16g_2_tab {n : Int} : (R16g_2 n).tab = [] := by kernel_rfl
noncomputable def R16g_4 (n : Int) : Res := runF eC1 f73 [] 400 [.int .i64 n, .int .i64 4] [] [none, some false, some true]
theorem R16g_4_ok {n : Int} (h : allP [.p (decide (n < 0) = false), .p ((n / 4294967296 != 0) = true)]) : OkR (R16g_4 n) := OkR.dem (fl := [true, false, true, false]) (by kernel_rfl) (by kernel_rfl) (by kernel_rfl) h
theorem R16g_4_val {n : Int} : (R16g_4 n).val = .tuple [.nilSlice, .int .i64 11] := by kernel_rfl
theorem R16g_4_tab {n : Int} : (R16g_4 n).tab = [] := by kernel_rfl
noncomputable def R16g_8 (n : Int) : Res := runF eC1 f73 [] 400 [.int .i64 n, .int .i64 8] [] [none, some false, some true]
theorem R16g_8_ok {n : Int} (h : allP [.p (decide (n < 0) = false), .p ((n / 4611686018427387904 != 0) = true)]) : OkR (R16g_8 n) := OkR.dem (fl := [false, true, false]) (by kernel_rfl) (by kernel_rfl) (by kernel_rfl) h
theorem R16g_8_val {n : Int} : (R16g_8 n).val = .tuple [.nilSlice, .int .i64 11] := by kernel_rfl
theorem R16g_8_tab {n : Int} : (R16g_8 n).tab = [] := by kernel_rfl
end Go.Abs

set_option linter.unusedVariables false
set_option linter.unusedSimpArgs false
set_option maxRecDepth 8000
namespace Go.Abs
open Go.Proofs.Try
def beLaw (n : Int) (size : Nat) : List Int := (List.range size).map fun j => n / 2 ^ (8 * (size - 1 - j)) % 256
def mostLaw (size : Int) : Int := if size = 1 then 256 else if size = 2 then 65536 else if size = 4 then 4294967296 else 4611686018427387904
def sizedLaw (size : Int) : Prop := size = 1 ∨ size = 2 ∨ size = 4 ∨ size = 8
instance (size : Int) : Decidable (sizedLaw size) := by unfold sizedLaw; exact inferInstance
def numLaw (n size : Int) : List Int := if sizedLaw size ∧ 0 ≤ n ∧ n < mostLaw size then beLaw n size.toNat else []
def numErrLaw (n size : Int) : Int := if sizedLaw size then (if 0 ≤ n ∧ n < mostLaw size then 0 else 11) else 1
theorem num_in {n size : Int} (hs : sizedLaw size) (h : 0 ≤ n ∧ n < mostLaw size) : numLaw n size = beLaw n size.toNat ∧ numErrLaw n size = 0 := by
  unfold numLaw numErrLaw; rw [if_pos ⟨hs, h⟩, if_pos hs, if_pos h]; exact ⟨rfl, rfl⟩
theorem num_out {n size : Int} (hs : sizedLaw size) (h : ¬ (0 ≤ n ∧ n < mostLaw size)) : numLaw n size = [] ∧ numErrLaw n size = 11 := by
  unfold numLaw numErrLaw; rw [if_neg (fun x => h x.2), if_pos hs, if_neg h]; exact ⟨rfl, rfl⟩
theorem num_bad {n size : Int} (hs : ¬ sizedLaw size) : numLaw n size = [] ∧ numErrLaw n size = 1 := by
  unfold numLaw numErrLaw; rw [if_neg (fun x => hs x.1), if_neg hs]; exact ⟨rfl, rfl⟩
def num16Law (n size : Int) : AVal := .tuple [.slice 1 0 0 0 (numLaw n size).length (some (numLaw n size).length), .int .i64 (numErrLaw n size)]
theorem bad16 {n size : Int} (hs : ¬ sizedLaw size) : Small prog (fun _ => none) 73 [.int .i64 n, .int .i64 size] [] (num16Law n size) [some ⟨.ints .u8 (numLaw n size), 0, true, 5⟩] := by
  unfold num16Law
  rw [(num_bad hs).1, (num_bad hs).2]
  unfold sizedLaw at hs
  exact small_nil2 .u8 5 (.inl rfl) (small_of (R := R16x n size) eC1x_ok hmN (f := 73) (fn := f73) (by kernel_rfl) (by kernel_rfl) FnOrc.nil rfl (R16x_ok (by simp [allP, Con.h]; omega)) R16x_val R16x_tab) (Nat.le_refl 0)

theorem in16_1 {n : Int} (h : 0 ≤ n ∧ n < 256) : Small prog (fun _ => none) 73 [.int .i64 n, .int .i64 1] [] (num16Law n 1) [some ⟨.ints .u8 (numLaw n 1), 0, true, 5⟩] := by
  have hm : 0 ≤ n ∧ n < mostLaw 1 := h
  have e := num_in (n := n) (size := 1) (by decide) hm
  unfold num16Law
  rw [e.1, e.2]
  have eb : beLaw n (Int.toNat 1) = [n / 1 % 256] := by kernel_rfl
  rw [eb]
  have hd : n / 256 = 0 := by omega
  exact small_of (R := R16_1 n) eC1_ok hmN (f := 73) (fn := f73) (by kernel_rfl) (by kernel_rfl) FnOrc.nil rfl (R16_1_ok (by simp [allP, Con.h, hd]; omega)) R16_1_val R16_1_tab
theorem out16_1 {n : Int} (h : ¬ (0 ≤ n ∧ n < 256)) : Small prog (fun _ => none) 73 [.int .i64 n, .int .i64 1] [] (num16Law n 1) [some ⟨.ints .u8 (numLaw n 1), 0, true, 5⟩] := by
  have hm : ¬ (0 ≤ n ∧ n < mostLaw 1) := h
  have e := num_out (n := n) (size := 1) (by decide) hm
  unfold num16Law
  rw [e.1, e.2]
  by_cases h0 : n < 0
  · exact small_nil2 .u8 5 (.inl rfl) (small_of (R := R16n_1 n) eC1_ok hmN (f := 73) (fn := f73) (by kernel_rfl) (by kernel_rfl) FnOrc.nil rfl (R16n_1_ok (by simp [allP, Con.h]; omega)) R16n_1_val R16n_1_tab) (Nat.le_refl 0)
  · have hd : n / 256 ≠ 0 := by omega
    exact small_nil2 .u8 5 (.inl rfl) (small_of (R := R16g_1 n) eC1_ok hmN (f := 73) (fn := f73) (by kernel_rfl) (by kernel_rfl) FnOrc.nil rfl (R16g_1_ok (by simp [allP, Con.h, hd]; omega)) R16g_1_val R16g_1_tab) (Nat.le_refl 0)
theorem in16_2 {n : Int} (h : 0 ≤ n ∧ n < 65536) : Small prog (fun _ => none) 73 [.int .i64 n, .int .i64 2] [] (num16Law n 2) [some ⟨.ints .u8 (numLaw n 2), 0, true, 5⟩] := by
  have hm : 0 ≤ n ∧ n < mostLaw 2 := h
  have e := num_in (n := n) (size := 2) (by decide) hm
  unfold num16Law
  rw [e.1, e.2]
  have eb : beLaw n (Int.toNat 2) = [n / 256 % 256, n / 1 % 256] := by kernel_rfl
  rw [eb]
  have hd : n / 65536 = 0 := by omega
  exact small_of (R := R16_2 n) eC1_ok hmN (f := 73) (fn := f73) (by kernel_rfl) (by kernel_rfl) FnOrc.nil rfl (R16_2_ok (by simp [allP, Con.h, hd]; omega)) R16_2_val R16_2_tab
theorem out16_2 {n : Int} (h : ¬ (0 ≤ n ∧ n < 65536)) : Small prog (fun _ => none) 73 [.int .i64 n, .int .i64 2] [] (num16Law n 2) [some ⟨.ints .u8 (numLaw n 2), 0, true, 5⟩] := by
  have hm : ¬ (0 ≤ n ∧ n < mostLaw 2) := h
  have e := num_out (n := n) (size := 2) (by decide) hm
  unfold num16Law
  rw [e.1, e.2]
  by_cases h0 : n < 0
  · exact small_nil2 .u8 5 (.inl rfl) (small_of (R := R16n_2 n) eC1_ok hmN (f := 73) (fn := f73) (by kernel_rfl) (by kernel_rfl) FnOrc.nil rfl (R16n_2_ok (by simp [allP, Con.h]; omega)) R16n_2_val R16n_2_tab) (Nat.le_refl 0)
  · have hd : n / 65536 ≠ 0 := by omega
    exact small_nil2 .u8 5 (.inl rfl) (small_of (R := R16g_2 n) eC1_ok hmN (f := 73) (fn := f73) (by kernel_rfl) (by kernel_rfl) FnOrc.nil rfl (R16g_2_ok (by simp [allP, Con.h, hd]; omega)) R16g_2_val R16g_2_tab) (Nat.le_refl 0)
theorem in16_4 {n : Int} (h : 0 ≤ n ∧ n < 4294967296) : Small prog (fun _ => none) 73 [.int .i64 n, .int .i64 4] [] (num16Law n 4) [some ⟨.ints .u8 (numLaw n 4), 0, true, 5⟩] := by
  have hm : 0 ≤ n ∧ n < mostLaw 4 := h
  have e := num_in (n := n) (size := 4) (by decide) hm
  unfold num16Law
  rw [e.1, e.2]
  have eb : beLaw n (Int.toNat 4) = [n / 16777216 % 256, n / 65536 % 256, n / 256 % 256, n / 1 % 256] := by kernel_rfl
  rw [eb]
  have hd : n / 4294967296 = 0 := by omega
  exact small_of (R := R16_4 n) eC1_ok hmN (f := 73) (fn := f73) (by kernel_rfl) (by kernel_rfl) FnOrc.nil rfl (R16_4_ok (by simp [allP, Con.h, hd]; omega)) R16_4_val R16_4_tab
theorem out16_4 {n : Int} (h : ¬ (0 ≤ n ∧ n < 4294967296)) : Small prog (fun _ => none) 73 [.int .i64 n, .int .i64 4] [] (num16Law n 4) [some ⟨.ints .u8 (numLaw n 4), 0, true, 5⟩] := by
  have hm : ¬ (0 ≤ n ∧ n < mostLaw 4) := h
  have e := num_out (n := n) (size := 4) (by decide) hm
  unfold num16Law
  rw [e.1, e.2]
  by_cases h0 : n < 0
  · exact small_nil2 .u8 5 (.inl rfl) (small_of (R := R16n_4 n) eC1_ok hmN (f := 73) (fn := f73) (by kernel_rfl) (by kernel_rfl) FnOrc.nil rfl (R16n_4_ok (by simp [allP, Con.h]; omega)) R16n_4_val R16n_4_tab) (Nat.le_refl 0)
  · have hd : n / 4294967296 ≠ 0 := by omega
    exact small_nil2 .u8 5 (.inl rfl) (small_of (R := R16g_4 n) eC1_ok hmN (f := 73) (fn := f73) (by kernel_rfl) (by kernel_rfl) FnOrc.nil rfl (R16g_4_ok (by simp [allP, Con.h, hd]; omega)) R16g_4_val R16g_4_tab) (Nat.le_refl 0)
theorem in16_8 {n : Int} (h : 0 ≤ n ∧ n < 4611686018427387904) : Small prog (fun _ => none) 73 [.int .i64 n, .int .i64 8] [] (num16Law n 8) [some ⟨.ints .u8 (numLaw n 8), 0, true, 5⟩] := by
  have hm : 0 ≤ n ∧ n < mostLaw 8 := h
  have e := num_in (n := n) (size := 8) (by decide) hm
  unfold num16Law
  rw [e.1, e.2]
  have eb : beLaw n (Int.toNat 8) = [n / 72057594037927936 % 256, n / 281474976710656 % 256, n / 1099511627776 % 256, n / 4294967296 % 256, n / 16777216 % 256, n / 65536 % 256, n / 256 % 256, n / 1 % 256] := by kernel_rfl
  rw [eb]
  have hd : n / 4611686018427387904 = 0 := by omega
  exact small_of (R := R16_8 n) eC1_ok hmN (f := 73) (fn := f73) (by kernel_rfl) (by kernel_rfl) FnOrc.nil rfl (R16_8_ok (by simp [allP, Con.h, hd]; omega)) R16_8_val R16_8_tab
theorem out16_8 {n : Int} (h : ¬ (0 ≤ n ∧ n < 4611686018427387904)) : Small prog (fun _ => none) 73 [.int .i64 n, .int .i64 8] [] (num16Law n 8) [some ⟨.ints .u8 (numLaw n 8), 0, true, 5⟩] := by
  have hm : ¬ (0 ≤ n ∧ n < mostLaw 8) := h
  have e := num_out (n := n) (size := 8) (by decide) hm
  unfold num16Law
  rw [e.1, e.2]
  by_cases h0 : n < 0
  · exact small_nil2 .u8 5 (.inl rfl) (small_of (R := R16n_8 n) eC1_ok hmN (f := 73) (fn := f73) (by kernel_rfl) (by kernel_rfl) FnOrc.nil rfl (R16n_8_ok (by simp [allP, Con.h]; omega)) R16n_8_val R16n_8_tab) (Nat.le_refl 0)
  · have hd : n / 4611686018427387904 ≠ 0 := by omega
    exact small_nil2 .u8 5 (.inl rfl) (small_of (R := R16g_8 n) eC1_ok hmN (f := 73) (fn := f73) (by kernel_rfl) (by kernel_rfl) FnOrc.nil rfl (R16g_8_ok (by simp [allP, Con.h, hd]; omega)) R16g_8_val R16g_8_tab) (Nat.le_refl 0)
def sm16 : Summary := fun args T => match args, T with
  | [.int .i64 n, .int .i64 size], [] => ⟨[], num16Law n size, [some ⟨.ints .u8 (numLaw n size), 0, true, 5⟩]⟩
  | _, _ => fail
theorem sm16_ok : SmOk prog (fun _ => none) 73 sm16 := by
  intro args T hc
  unfold sm16 at hc ⊢
  split at hc
  · rename_i n size
    by_cases hs : sizedLaw size
    · rcases hs with rfl | rfl | rfl | rfl
      · by_cases h : 0 ≤ n ∧ n < 256
        · exact in16_1 h
        · exact out16_1 h
      · by_cases h : 0 ≤ n ∧ n < 65536
        · exact in16_2 h
        · exact out16_2 h
      · by_cases h : 0 ≤ n ∧ n < 4294967296
        · exact in16_4 h
        · exact out16_4 h
      · by_cases h : 0 ≤ n ∧ n < 4611686018427387904
        · exact in16_8 h
        · exact out16_8 h
    · exact bad16 hs
  · exact absurd hc nofail
def S16 : Summary := callR sm16 []
theorem S16_ok : SumOk prog (fun _ => none) 73 S16 := callR_ok sm16_ok []
end Go.Abs

set_option linter.unusedVariables false
set_option linter.unusedSimpArgs false
set_option maxRecDepth 8000
namespace Go.Abs
open Go.Proofs.Try
/-! ### lengths -/
def lenLaw (n : Int) : List Int :=
  if n < 0 ∨ 1073741824 ≤ n then [] else if n < 64 then [n / 1 % 256] else if n < 16384 then [(n + 16384) / 256 % 256, (n + 16384) / 1 % 256]
  else [(n + 2147483648) / 16777216 % 256, (n + 2147483648) / 65536 % 256, (n + 2147483648) / 256 % 256, (n + 2147483648) / 1 % 256]
def lenErrLaw (n : Int) : Int := if n < 0 ∨ 1073741824 ≤ n then 11 else 0
theorem ior_add {a b : Int} {k : Nat} (ha : 0 ≤ a) (hk : a < 2 ^ k) (hb : 0 ≤ b) : ior a (b * 2 ^ k) = a + b * 2 ^ k := by
  obtain ⟨m, rfl⟩ := Int.eq_ofNat_of_zero_le ha
  obtain ⟨c, rfl⟩ := Int.eq_ofNat_of_zero_le hb
  have hm : m < 2 ^ k := by exact_mod_cast hk
  have e : ((c : Int) * 2 ^ k).toNat = c <<< k := by rw [Nat.shiftLeft_eq]; exact_mod_cast Int.toNat_natCast _
  unfold ior
  rw [e, Int.toNat_natCast, Nat.or_comm, ← Nat.shiftLeft_add_eq_or_of_lt hm, Nat.shiftLeft_eq]
  push_cast
  omega
noncomputable def R18a (n : Int) : Res := runF eC1 f89 [] 400 [.int .i64 n] [] [none, some true, some true]
theorem R18a_ok {n : Int} (h : allP [.p (decide (0 ≤ n) = true), .p ((n / 64 == 0) = true), .nn .i64 n]) : OkR (R18a n) := OkR.dem (fl := bitsF 29 536868795) (by kernel_rfl) (by kernel_rfl) (by kernel_rfl) h
theorem R18a_val {n : Int} : (R18a n).val = .tuple [.slice 1 0 0 0 1 (some 1), .int .i64 0] := by kernel_rfl
theorem R18a_tab {n : Int} : (R18a n).tab = [some ⟨.ints .u8 [ior n 0 / 1 % 256], 0, true, 5⟩] := by kernel_rfl
noncomputable def R18b (n : Int) : Res := runF eC1 f89 [] 400 [.int .i64 n] [] [none, some true, some false, none, some true, some true]
theorem R18b_ok {n : Int} (h : allP [.p (decide (0 ≤ n) = true), .p ((n / 64 == 0) = false), .p (decide (0 ≤ n) = true), .p ((n / 16384 == 0) = true), .nn .i64 n]) : OkR (R18b n) := OkR.dem (fl := bitsF 49 562949952879547) (by kernel_rfl) (by kernel_rfl) (by kernel_rfl) h
theorem R18b_val {n : Int} : (R18b n).val = .tuple [.slice 1 0 0 0 2 (some 2), .int .i64 0] := by kernel_rfl
theorem R18b_tab {n : Int} : (R18b n).tab = [some ⟨.ints .u8 [ior n 16384 / 256 % 256, ior n 16384 / 1 % 256], 0, true, 5⟩] := by kernel_rfl
noncomputable def R18c (n : Int) : Res := runF eC1 f89 [] 400 [.int .i64 n] [] [none, some true, some false, none, some true, some false, none, some true, some true]
theorem R18c_ok {n : Int} (h : allP [.p (decide (0 ≤ n) = true), .p ((n / 64 == 0) = false), .p (decide (0 ≤ n) = true), .p ((n / 16384 == 0) = false), .p (decide (0 ≤ n) = true), .p ((n / 1073741824 == 0) = true), .nn .i64 n]) : OkR (R18c n) := OkR.dem (fl := bitsF 81 2417851639229258210720699) (by kernel_rfl) (by kernel_rfl) (by kernel_rfl) h
theorem R18c_val {n : Int} : (R18c n).val = .tuple [.slice 1 0 0 0 4 (some 4), .int .i64 0] := by kernel_rfl
theorem R18c_tab {n : Int} : (R18c n).tab = [some ⟨.ints .u8 [ior n 2147483648 / 16777216 % 256, ior n 2147483648 / 65536 % 256, ior n 2147483648 / 256 % 256, ior n 2147483648 / 1 % 256], 0, true, 5⟩] := by kernel_rfl
noncomputable def R18d (n : Int) : Res := runF eC1 f89 [] 400 [.int .i64 n] [] [none, some false, none, some false, none, some false]
theorem R18d_ok {n : Int} (h : allP [.p (decide (0 ≤ n) = false), .p (decide (0 ≤ n) = false), .p (decide (0 ≤ n) = false)]) : OkR (R18d n) := OkR.dem (fl := bitsF 12 3003) (by kernel_rfl) (by kernel_rfl) (by kernel_rfl) h
theorem R18d_val {n : Int} : (R18d n).val = .tuple [.nilSlice, .int .i64 11] := by kernel_rfl
theorem R18d_tab {n : Int} : (R18d n).tab = [] := by kernel_rfl
noncomputable def R18e (n : Int) : Res := runF eC1 f89 [] 400 [.int .i64 n] [] [none, some true, some false, none, some true, some false, none, some true, some false]
theorem R18e_ok {n : Int} (h : allP [.p (decide (0 ≤ n) = true), .p ((n / 64 == 0) = false), .p (decide (0 ≤ n) = true), .p ((n / 16384 == 0) = false), .p (decide (0 ≤ n) = true), .p ((n / 1073741824 == 0) = false)]) : OkR (R18e n) := OkR.dem (fl := bitsF 24 12303291) (by kernel_rfl) (by kernel_rfl) (by kernel_rfl) h
theorem R18e_val {n : Int} : (R18e n).val = .tuple [.nilSlice, .int .i64 11] := by kernel_rfl
theorem R18e_tab {n : Int} : (R18e n).tab = [] := by kernel_rfl
end Go.Abs

set_option linter.unusedVariables false
set_option linter.unusedSimpArgs false
set_option maxRecDepth 8000
namespace Go.Abs
open Go.Proofs.Try
theorem ior_64 {n : Int} (h : 0 ≤ n) : ior n 0 = n := by
  obtain ⟨m, rfl⟩ := Int.eq_ofNat_of_zero_le h
  simp [ior]
theorem ior_16384 {n : Int} (h : 0 ≤ n) (h2 : n < 16384) : ior n 16384 = n + 16384 := ior_add (k := 14) (b := 1) h h2 (by decide)
theorem ior_31 {n : Int} (h : 0 ≤ n) (h2 : n < 1073741824) : ior n 2147483648 = n + 2147483648 := ior_add (k := 30) (b := 2) h h2 (by decide)
theorem len_a {n : Int} (h : 0 ≤ n) (h2 : n < 64) : lenLaw n = [n / 1 % 256] ∧ lenErrLaw n = 0 := by
  unfold lenLaw lenErrLaw; rw [if_neg (by omega), if_pos h2, if_neg (by omega)]; exact ⟨rfl, rfl⟩
theorem len_b {n : Int} (h : 64 ≤ n) (h2 : n < 16384) : lenLaw n = [(n + 16384) / 256 % 256, (n + 16384) / 1 % 256] ∧ lenErrLaw n = 0 := by
  unfold lenLaw lenErrLaw; rw [if_neg (by omega), if_neg (by omega), if_pos h2, if_neg (by omega)]; exact ⟨rfl, rfl⟩
theorem len_c {n : Int} (h : 16384 ≤ n) (h2 : n < 1073741824) : lenLaw n = [(n + 2147483648) / 16777216 % 256, (n + 2147483648) / 65536 % 256, (n + 2147483648) / 256 % 256, (n + 2147483648) / 1 % 256] ∧ lenErrLaw n = 0 := by
  unfold lenLaw lenErrLaw; rw [if_neg (by omega), if_neg (by omega), if_neg (by omega), if_neg (by omega)]; exact ⟨rfl, rfl⟩
theorem len_d {n : Int} (h : n < 0 ∨ 1073741824 ≤ n) : lenLaw n = [] ∧ lenErrLaw n = 11 := by
  unfold lenLaw lenErrLaw; rw [if_pos h, if_pos h]; exact ⟨rfl, rfl⟩
theorem lenLaw_len (n : Int) : (lenLaw n).length ≤ 4 := by
  unfold lenLaw; split
  · simp
  · split
    · simp
    · split <;> simp
def len18Law (n : Int) : AVal := .tuple [.slice 1 0 0 0 (lenLaw n).length (some (lenLaw n).length), .int .i64 (lenErrLaw n)]
def sm18 : Summary := fun args T => match args, T with
  | [.int .i64 n], [] => ⟨[], len18Law n, [some ⟨.ints .u8 (lenLaw n), 0, true, 5⟩]⟩
  | _, _ => fail
theorem nn_i64 {n : Int} (h : 0 ≤ n) (h2 : n < 1073741824) : nonneg .i64 n := ⟨h, by omega⟩
theorem sm18_ok : SmOk prog (fun _ => none) 89 sm18 := by
  intro args T hc
  unfold sm18 at hc ⊢
  split at hc
  · rename_i n
    simp only
    unfold len18Law
    by_cases h0 : n < 0
    · rw [(len_d (.inl h0)).1, (len_d (.inl h0)).2]
      exact small_nil2 .u8 5 (.inl rfl) (small_of (R := R18d n) eC1_ok hmN (f := 89) (fn := f89) (by kernel_rfl) (by kernel_rfl) FnOrc.nil rfl (R18d_ok (by simp [allP, Con.h]; omega)) R18d_val R18d_tab) (Nat.le_refl 0)
    by_cases h1 : 1073741824 ≤ n
    · rw [(len_d (.inr h1)).1, (len_d (.inr h1)).2]
      have d1 : n / 64 ≠ 0 := by omega
      have d2 : n / 16384 ≠ 0 := by omega
      have d3 : n / 1073741824 ≠ 0 := by omega
      exact small_nil2 .u8 5 (.inl rfl) (small_of (R := R18e n) eC1_ok hmN (f := 89) (fn := f89) (by kernel_rfl) (by kernel_rfl) FnOrc.nil rfl (R18e_ok (by simp [allP, Con.h, d1, d2, d3]; omega)) R18e_val R18e_tab) (Nat.le_refl 0)
    have hn := nn_i64 (n := n) (by omega) (by omega)
    by_cases h2 : n < 64
    · have e := len_a (n := n) (by omega) h2
      rw [e.1, e.2]
      have d1 : n / 64 = 0 := by omega
      exact small_of (R := R18a n) eC1_ok hmN (f := 89) (fn := f89) (by kernel_rfl) (by kernel_rfl) FnOrc.nil rfl (R18a_ok (by simp [allP, Con.h, d1, hn]; omega)) R18a_val (by rw [R18a_tab, ior_64 (by omega)])
    by_cases h3 : n < 16384
    · have e := len_b (n := n) (by omega) h3
      rw [e.1, e.2]
      have d1 : n / 64 ≠ 0 := by omega
      have d2 : n / 16384 = 0 := by omega
      exact small_of (R := R18b n) eC1_ok hmN (f := 89) (fn := f89) (by kernel_rfl) (by kernel_rfl) FnOrc.nil rfl (R18b_ok (by simp [allP, Con.h, d1, d2, hn]; omega)) R18b_val (by rw [R18b_tab, ior_16384 (by omega) h3])
    · have e := len_c (n := n) (by omega) (by omega)
      rw [e.1, e.2]
      have d1 : n / 64 ≠ 0 := by omega
      have d2 : n / 16384 ≠ 0 := by omega
      have d3 : n / 1073741824 = 0 := by omega
      exact small_of (R := R18c n) eC1_ok hmN (f := 89) (fn := f89) (by kernel_rfl) (by kernel_rfl) FnOrc.nil rfl (R18c_ok (by simp [allP, Con.h, d1, d2, d3, hn]; omega)) R18c_val (by rw [R18c_tab, ior_31 (by omega) (by omega)])
  · exact absurd hc nofail
def S18c : Summary := callR sm18 []
theorem S18c_ok : SumOk prog (fun _ => none) 89 S18c := callR_ok sm18_ok []
end Go.Abs

set_option linter.unusedVariables false
set_option linter.unusedSimpArgs false
set_option maxRecDepth 8000
namespace Go.Abs
open Go.Proofs.Try
def subLaw (zs : List Int) (off n : Nat) : List Int := (zs.drop off).take n
end Go.Abs

set_option linter.unusedVariables false
set_option linter.unusedSimpArgs false
set_option maxRecDepth 100000
set_option maxHeartbeats 4000000
namespace Go.Abs
open Go.Proofs Go.Proofs.Try
def beN : Nat → List Int → Nat → Int
  | 0, _, _ => 0
  | k + 1, B, off => beN k B off * 256 + B.getD (off + k) 0
def numAtLaw (k : Nat) (B : List Int) (off : Nat) : Int := beN k B off
def LowLaw (B : List Int) (off : Nat) (size : Int) : Prop := size = 8 → B.getD off 0 < 64
end Go.Abs

set_option linter.unusedVariables false
set_option linter.unusedSimpArgs false
set_option maxRecDepth 100000
set_option maxHeartbeats 4000000
namespace Go.Abs
open Go.Proofs Go.Proofs.Try
end Go.Abs

set_option linter.unusedVariables false
set_option linter.unusedSimpArgs false
set_option maxRecDepth 100000
set_option maxHeartbeats 4000000
namespace Go.Abs
open Go.Proofs Go.Proofs.Try
end Go.Abs

set_option linter.unusedVariables false
set_option linter.unusedSimpArgs false
set_option maxRecDepth 100000
set_option maxHeartbeats 4000000
namespace Go.Abs
open Go.Proofs Go.Proofs.Try
/-! ### what a reader's Number answers -/
def rnP (B : List Int) (off : Nat) (e size : Int) : Int × Nat × Int :=
  if e ≠ 0 then (0, off, e) else if ¬ sizedLaw size then (0, off, 1) else if ((B.length - off : Nat) : Int) < size then (0, off, 20) else if size = 8 ∧ 64 ≤ B.getD off 0 then (0, off, 11) else (numAtLaw size.toNat B off, off + size.toNat, 0)
def rnVLaw (B : List Int) (off : Nat) (e size : Int) : Int := (rnP B off e size).1
def rnOLaw (B : List Int) (off : Nat) (e size : Int) : Nat := (rnP B off e size).2.1
def rnELaw (B : List Int) (off : Nat) (e size : Int) : Int := (rnP B off e size).2.2
theorem rn_g {B : List Int} {off : Nat} {size : Int} (h : sizedLaw size) (h2 : ¬ ((B.length - off : Nat) : Int) < size) (h3 : LowLaw B off size) : rnP B off 0 size = (numAtLaw size.toNat B off, off + size.toNat, 0) := by
  unfold rnP
  rw [if_neg (by decide), if_neg (fun k => k h), if_neg h2, if_neg (fun k => by have := h3 k.1; omega)]
end Go.Abs

set_option linter.unusedVariables false
set_option linter.unusedSimpArgs false
set_option maxRecDepth 100000
set_option maxHeartbeats 4000000
namespace Go.Abs
open Go.Proofs Go.Proofs.Try
end Go.Abs

set_option linter.unusedVariables false
set_option linter.unusedSimpArgs false
set_option maxRecDepth 100000
set_option maxHeartbeats 4000000
namespace Go.Abs
open Go.Proofs Go.Proofs.Try
/-! ### what a reader's Length answers -/
def rlT (B : List Int) (off k : Nat) (m lo : Int) : Int × Nat × Int := if B.length - off < k then (0, off, 20) else if iand (numAtLaw k B off) m < lo then (0, off, 21) else (iand (numAtLaw k B off) m, off + k, 0)
def rlP (B : List Int) (off : Nat) (e : Int) : Int × Nat × Int :=
  if e ≠ 0 then (0, off, e) else if B.length - off = 0 then (0, off, 20) else if B.getD off 0 / 64 = 3 then (0, off, 21) else if B.getD off 0 / 64 = 0 then rlT B off 1 63 0 else if B.getD off 0 / 64 = 1 then rlT B off 2 16383 64 else rlT B off 4 1073741823 16384
def rlVLaw (B : List Int) (off : Nat) (e : Int) : Int := (rlP B off e).1
def rlOLaw (B : List Int) (off : Nat) (e : Int) : Nat := (rlP B off e).2.1
def rlELaw (B : List Int) (off : Nat) (e : Int) : Int := (rlP B off e).2.2
theorem rl_0 {B : List Int} {off : Nat} (h : ¬ B.length - off = 0) (h2 : B.getD off 0 / 64 = 0) : rlP B off 0 = rlT B off 1 63 0 := by unfold rlP; rw [if_neg (by decide), if_neg h, h2, if_neg (by decide), if_pos rfl]
theorem rl_1 {B : List Int} {off : Nat} (h : ¬ B.length - off = 0) (h2 : B.getD off 0 / 64 = 1) : rlP B off 0 = rlT B off 2 16383 64 := by unfold rlP; rw [if_neg (by decide), if_neg h, h2, if_neg (by decide), if_neg (by decide), if_pos rfl]
theorem rl_2 {B : List Int} {off : Nat} (h : ¬ B.length - off = 0) (h2 : B.getD off 0 / 64 = 2) : rlP B off 0 = rlT B off 4 1073741823 16384 := by unfold rlP; rw [if_neg (by decide), if_neg h, h2, if_neg (by decide), if_neg (by decide), if_neg (by decide)]
theorem rlT_g {B : List Int} {off k : Nat} {m lo : Int} (h : ¬ B.length - off < k) (h2 : ¬ iand (numAtLaw k B off) m < lo) : rlT B off k m lo = (iand (numAtLaw k B off) m, off + k, 0) := by unfold rlT; rw [if_neg h, if_neg h2]
end Go.Abs

set_option linter.unusedVariables false
set_option linter.unusedSimpArgs false
set_option maxRecDepth 8000
namespace Go.Abs
open Go.Proofs Go.Proofs.Try
end Go.Abs

set_option linter.unusedVariables false
set_option linter.unusedSimpArgs false
set_option maxRecDepth 100000
set_option maxHeartbeats 4000000
namespace Go.Abs
open Go.Proofs Go.Proofs.Try
end Go.Abs

set_option linter.unusedVariables false
set_option linter.unusedSimpArgs false
set_option maxRecDepth 100000
set_option maxHeartbeats 4000000
namespace Go.Abs
open Go.Proofs Go.Proofs.Try
def rtP (B : List Int) (off : Nat) (e m : Int) : List Int × Nat × Int :=
  if e ≠ 0 then ([], off, e) else if m < 0 then ([], off, 1) else if ((B.length - off : Nat) : Int) < m then ([], off, 20) else (subLaw B off m.toNat, off + m.toNat, 0)
def rtVLaw (B : List Int) (off : Nat) (e m : Int) : List Int := (rtP B off e m).1
def rtOLaw (B : List Int) (off : Nat) (e m : Int) : Nat := (rtP B off e m).2.1
def rtELaw (B : List Int) (off : Nat) (e m : Int) : Int := (rtP B off e m).2.2
theorem rt_g {B : List Int} {off m : Nat} (h2 : ¬ ((B.length - off : Nat) : Int) < m) : rtP B off 0 m = (subLaw B off m, off + m, 0) := by unfold rtP; rw [if_neg (by decide), if_neg (by omega), if_neg h2]; rfl
def reLaw (B : List Int) (off : Nat) (e : Int) : Int := if e ≠ 0 then e else if 0 < B.length - off then 21 else 0
end Go.Abs

set_option linter.unusedVariables false
set_option linter.unusedSimpArgs false
set_option maxRecDepth 100000
set_option maxHeartbeats 4000000
namespace Go.Abs
open Go.Proofs Go.Proofs.Try
end Go.Abs

set_option linter.unusedVariables false
set_option linter.unusedSimpArgs false
set_option maxRecDepth 100000
set_option maxHeartbeats 4000000
namespace Go.Abs
open Go.Proofs Go.Proofs.Try
/-! ### what a reader's Vector answers -/
def rvE1 (B : List Int) (off : Nat) : Int := if rlELaw B off 0 = 0 ∧ 65536 < rlVLaw B off 0 then 21 else rlELaw B off 0
def rvP (B : List Int) (off : Nat) (e : Int) : List Int × Nat × Int :=
  if e ≠ 0 then ([], off, e) else (rtVLaw B (rlOLaw B off 0) (rvE1 B off) (rlVLaw B off 0), (if rtELaw B (rlOLaw B off 0) (rvE1 B off) (rlVLaw B off 0) ≠ 0 then off else rtOLaw B (rlOLaw B off 0) (rvE1 B off) (rlVLaw B off 0)), rtELaw B (rlOLaw B off 0) (rvE1 B off) (rlVLaw B off 0))
def rvVLaw (B : List Int) (off : Nat) (e : Int) : List Int := (rvP B off e).1
def rvOLaw (B : List Int) (off : Nat) (e : Int) : Nat := (rvP B off e).2.1
def rvELaw (B : List Int) (off : Nat) (e : Int) : Int := (rvP B off e).2.2
theorem rv_g {B : List Int} {off : Nat} {e1 : Int} (h : rvE1 B off = e1) (h2 : rtELaw B (rlOLaw B off 0) e1 (rlVLaw B off 0) = 0) : rvP B off 0 = (rtVLaw B (rlOLaw B off 0) e1 (rlVLaw B off 0), rtOLaw B (rlOLaw B off 0) e1 (rlVLaw B off 0), rtELaw B (rlOLaw B off 0) e1 (rlVLaw B off 0)) := by
  unfold rvP; rw [if_neg (by decide), h, if_neg (fun k => k h2)]
end Go.Abs

set_option linter.unusedVariables false
set_option linter.unusedSimpArgs false
set_option maxRecDepth 100000
set_option maxHeartbeats 4000000
namespace Go.Abs
open Go.Proofs Go.Proofs.Try
end Go.Abs

set_option linter.unusedVariables false
set_option linter.unusedSimpArgs false
set_option maxRecDepth 100000
set_option maxHeartbeats 4000000
namespace Go.Abs
open Go.Proofs Go.Proofs.Try
end Go.Abs

set_option linter.unusedVariables false
set_option linter.unusedSimpArgs false
set_option maxRecDepth 100000
set_option maxHeartbeats 4000000
namespace Go.Abs
open Go.Proofs Go.Proofs.Try
end Go.Abs

set_option linter.unusedVariables false
set_option linter.unusedSimpArgs false
set_option maxRecDepth 100000
set_option maxHeartbeats 4000000
namespace Go.Abs
open Go.Proofs Go.Proofs.Try
end Go.Abs

set_option linter.unusedVariables false
set_option linter.unusedSimpArgs false
set_option maxRecDepth 100000
set_option maxHeartbeats 4000000
namespace Go.Abs
open Go.Proofs Go.Proofs.Try
end Go.Abs

set_option linter.unusedVariables false
set_option linter.unusedSimpArgs false
set_option maxRecDepth 100000
set_option maxHeartbeats 4000000
namespace Go.Abs
open Go.Proofs Go.Proofs.Try
end Go.Abs

set_option linter.unusedVariables false
set_option linter.unusedSimpArgs false
set_option maxRecDepth 100000
set_option maxHeartbeats 4000000
namespace Go.Abs
open Go.Proofs Go.Proofs.Try
end Go.Abs

set_option linter.unusedVariables false
set_option linter.unusedSimpArgs false
set_option maxRecDepth 100000
set_option maxHeartbeats 4000000
namespace Go.Abs
open Go.Proofs Go.Proofs.Try
/-! ### demands -/
noncomputable def nS48 : Summary := sumI modeO (eN0 []) f48 [] 100 [] []
theorem nS48_ok : SumOk prog (fun _ => none) 48 nS48 := sumI_ok eN0_ok hmN (fn := f48) (by kernel_rfl) (by kernel_rfl) [] FnOrc.nil 100 [] []
noncomputable def nP48 : Summary := sumP modeO (eN0 []) [] f48 100 1 [] []
theorem nP48_ok : SumOkP prog (fun _ => none) 48 nP48 := sumP_ok eN0_ok hmN PsOk.nil (fn := f48) (by kernel_rfl) 100 1 [] []
noncomputable def psN0 : List (Nat × Summary) := [(48, nP48)]
theorem psN0_ok : PsOk prog (fun _ => none) psN0 := PsOk.cons (fn := f48) nP48_ok (by kernel_rfl) (by kernel_rfl) (by kernel_rfl) PsOk.nil
noncomputable def eM0 : Env := eN0 [(48, nS48)]
theorem eM0_ok : EnvOk eM0 := envOf_ok tysN_ok (SumsOk.cons (fn := f48) nS48_ok (by kernel_rfl) (by kernel_rfl) (by kernel_rfl) trivial)
noncomputable def nS69 : Summary := sumI modeO eM0 f69 [] 100 [some true] []
theorem nS69_ok : SumOk prog (fun _ => none) 69 nS69 := sumI_ok eM0_ok hmN (fn := f69) (by kernel_rfl) (by kernel_rfl) [] FnOrc.nil 100 [some true] []
noncomputable def nP69 : Summary := sumP modeO (eN0 []) psN0 f69 100 0 [some false] []
theorem nP69_ok : SumOkP prog (fun _ => none) 69 nP69 := sumP_ok eN0_ok hmN psN0_ok (fn := f69) (by kernel_rfl) 100 0 [some false] []
noncomputable def psN1 : List (Nat × Summary) := [(48, nP48), (69, nP69)]
theorem psN1_ok : PsOk prog (fun _ => none) psN1 := PsOk.cons (fn := f48) nP48_ok (by kernel_rfl) (by kernel_rfl) (by kernel_rfl) (PsOk.cons (fn := f69) nP69_ok (by kernel_rfl) (by kernel_rfl) (by kernel_rfl) PsOk.nil)
noncomputable def eM1 : Env := eN0 [(48, nS48), (69, nS69)]
theorem eM1_ok : EnvOk eM1 := envOf_ok tysN_ok (SumsOk.cons (fn := f48) nS48_ok (by kernel_rfl) (by kernel_rfl) (by kernel_rfl) (SumsOk.cons (fn := f69) nS69_ok (by kernel_rfl) (by kernel_rfl) (by kernel_rfl) trivial))
end Go.Abs

set_option linter.unusedVariables false
set_option linter.unusedSimpArgs false
set_option maxRecDepth 100000
set_option maxHeartbeats 4000000
namespace Go.Abs
open Go.Proofs Go.Proofs.Try
/-! ### may a leaf be? -/
def RightN (n1 n2 n3 : Nat) (s : Int) (n4 n5 : Nat) : Prop := n1 = 32 ∧ n2 = 32 ∧ n5 = 64 ∧ 1 ≤ n3 ∧ n3 ≤ 64 ∧ 1 ≤ s ∧ s ≤ 3 ∧ (n4 = 0 ∨ n4 = 32 ∧ s = 3)
instance (n1 n2 n3 : Nat) (s : Int) (n4 n5 : Nat) : Decidable (RightN n1 n2 n3 s n4 n5) := by unfold RightN; exact inferInstance
noncomputable def nR37e (a b c d z : List Int) (g1 g2 g3 g4 g5 n1 n2 n3 n4 n5 : Nat) (s : Int) : Res := runF eM1 f37 [] 400 [.agg [.slice 1 0 g1 0 n1 none, .slice 1 1 g2 0 n2 none, .slice 1 2 g3 0 n3 none, .int .i64 s, .slice 1 3 g4 0 n4 none, .slice 1 4 g5 0 n5 none]] [some ⟨.ints .u8 a, g1, false, 5⟩, some ⟨.ints .u8 b, g2, false, 5⟩, some ⟨.ints .u8 c, g3, false, 5⟩, some ⟨.ints .u8 d, g4, false, 5⟩, some ⟨.ints .u8 z, g5, false, 5⟩] [some true, some true, some true, some true, some true]
theorem nR37e_ok {a b c d z : List Int} {g1 g2 g3 g4 g5 n1 n2 n3 n4 n5 : Nat} {s : Int} (h : allP [.eqN g1 g1, .eqN g1 g1, .p (((↑n1 : Int) == 32) = true), .eqN g2 g2, .eqN g2 g2, .p (((↑n2 : Int) == 32) = true), .eqN g5 g5, .eqN g5 g5, .p (((↑n5 : Int) == 64) = true), .eqN g3 g3, .p (decide (1 ≤ (↑n3 : Int)) = true), .eqN g3 g3, .p (decide ((↑n3 : Int) ≤ 64) = true), .p (decide (1 ≤ s) = true), .p
 (decide (s ≤ 3) = true), .eqN g4 g4, .p (((↑n4 : Int) == 0) = true)]) : OkR (nR37e a b c d z g1 g2 g3 g4 g5 n1 n2 n3 n4 n5 s) := OkR.dem (fl := bitsF 41 513040740807) (by kernel_rfl) (by kernel_rfl) (by kernel_rfl) h
theorem nR37e_val {a b c d z : List Int} {g1 g2 g3 g4 g5 n1 n2 n3 n4 n5 : Nat} {s : Int} : (nR37e a b c d z g1 g2 g3 g4 g5 n1 n2 n3 n4 n5 s).val = .tuple [] := by kernel_rfl
theorem nR37e_tab {a b c d z : List Int} {g1 g2 g3 g4 g5 n1 n2 n3 n4 n5 : Nat} {s : Int} : (nR37e a b c d z g1 g2 g3 g4 g5 n1 n2 n3 n4 n5 s).tab = [some ⟨.ints .u8 a, g1, false, 5⟩, some ⟨.ints .u8 b, g2, false, 5⟩, some ⟨.ints .u8 c, g3, false, 5⟩, some ⟨.ints .u8 d, g4, false, 5⟩, some ⟨.ints .u8 z, g5, false, 5⟩, some ⟨.agg [.slice 1 0 g1 0 n1 none, .slice 1 1 g2 0 n2 none, .slice 1 2 g3 0 n3
 none, .int .i64 s, .slice 1 3 g4 0 n4 none, .slice 1 4 g5 0 n5 none], 0, true, 26⟩] := by kernel_rfl
noncomputable def nR37h (a b c d z : List Int) (g1 g2 g3 g4 g5 n1 n2 n3 n4 n5 : Nat) (s : Int) : Res := runF eM1 f37 [] 400 [.agg [.slice 1 0 g1 0 n1 none, .slice 1 1 g2 0 n2 none, .slice 1 2 g3 0 n3 none, .int .i64 s, .slice 1 3 g4 0 n4 none, .slice 1 4 g5 0 n5 none]] [some ⟨.ints .u8 a, g1, false, 5⟩, some ⟨.ints .u8 b, g2, false, 5⟩, some ⟨.ints .u8 c, g3, false, 5⟩, some ⟨.ints .u8 d, g4, false, 5⟩, some ⟨.ints .u8 z, g5, false, 5⟩] [some true, some true, some true, some true, some false, some true, some true]
theorem nR37h_ok {a b c d z : List Int} {g1 g2 g3 g4 g5 n1 n2 n3 n4 n5 : Nat} {s : Int} (h : allP [.eqN g1 g1, .eqN g1 g1, .p (((↑n1 : Int) == 32) = true), .eqN g2 g2, .eqN g2 g2, .p (((↑n2 : Int) == 32) = true), .eqN g5 g5, .eqN g5 g5, .p (((↑n5 : Int) == 64) = true), .eqN g3 g3, .p (decide (1 ≤ (↑n3 : Int)) = true), .eqN g3 g3, .p (decide ((↑n3 : Int) ≤ 64) = true), .p (decide (1 ≤ s) = true), .p
 (decide (s ≤ 3) = true), .eqN g4 g4, .p (((↑n4 : Int) == 0) = false), .eqN g4 g4, .p (((↑n4 : Int) == 32) = true), .p ((s == 3) = true)]) : OkR (nR37h a b c d z g1 g2 g3 g4 g5 n1 n2 n3 n4 n5 s) := OkR.dem (fl := bitsF 50 508487412773319) (by kernel_rfl) (by kernel_rfl) (by kernel_rfl) h
theorem nR37h_val {a b c d z : List Int} {g1 g2 g3 g4 g5 n1 n2 n3 n4 n5 : Nat} {s : Int} : (nR37h a b c d z g1 g2 g3 g4 g5 n1 n2 n3 n4 n5 s).val = .tuple [] := by kernel_rfl
theorem nR37h_tab {a b c d z : List Int} {g1 g2 g3 g4 g5 n1 n2 n3 n4 n5 : Nat} {s : Int} : (nR37h a b c d z g1 g2 g3 g4 g5 n1 n2 n3 n4 n5 s).tab = [some ⟨.ints .u8 a, g1, false, 5⟩, some ⟨.ints .u8 b, g2, false, 5⟩, some ⟨.ints .u8 c, g3, false, 5⟩, some ⟨.ints .u8 d, g4, false, 5⟩, some ⟨.ints .u8 z, g5, false, 5⟩, some ⟨.agg [.slice 1 0 g1 0 n1 none, .slice 1 1 g2 0 n2 none, .slice 1 2 g3 0 n3
 none, .int .i64 s, .slice 1 3 g4 0 n4 none, .slice 1 4 g5 0 n5 none], 0, true, 26⟩] := by kernel_rfl
noncomputable def nP37a (a b c d z : List Int) (g1 g2 g3 g4 g5 n1 n2 n3 n4 n5 : Nat) (s : Int) : Res := fnRunP eM1 psN1 f37 400 1 [.agg [.slice 1 0 g1 0 n1 none, .slice 1 1 g2 0 n2 none, .slice 1 2 g3 0 n3 none, .int .i64 s, .slice 1 3 g4 0 n4 none, .slice 1 4 g5 0 n5 none]] [some ⟨.ints .u8 a, g1, false, 5⟩, some ⟨.ints .u8 b, g2, false, 5⟩, some ⟨.ints .u8 c, g3, false, 5⟩, some ⟨.ints .u8 d, g4, false, 5⟩, some ⟨.ints .u8 z, g5, false, 5⟩] []
theorem nP37a_ok {a b c d z : List Int} {g1 g2 g3 g4 g5 n1 n2 n3 n4 n5 : Nat} {s : Int} (h : allP [.eqN g1 g1, .eqN g1 g1, .p (((↑n1 : Int) == 32) = false)]) : OkR (nP37a a b c d z g1 g2 g3 g4 g5 n1 n2 n3 n4 n5 s) := OkR.dem (fl := [true, true, true, false, false, false]) (by kernel_rfl) (by kernel_rfl) (by kernel_rfl) h
theorem nP37a_val {a b c d z : List Int} {g1 g2 g3 g4 g5 n1 n2 n3 n4 n5 : Nat} {s : Int} : (nP37a a b c d z g1 g2 g3 g4 g5 n1 n2 n3 n4 n5 s).val = .iface 28 (.int .i64 1) := by kernel_rfl
theorem nP37a_tab {a b c d z : List Int} {g1 g2 g3 g4 g5 n1 n2 n3 n4 n5 : Nat} {s : Int} : (nP37a a b c d z g1 g2 g3 g4 g5 n1 n2 n3 n4 n5 s).tab = [some ⟨.ints .u8 a, g1, false, 5⟩, some ⟨.ints .u8 b, g2, false, 5⟩, some ⟨.ints .u8 c, g3, false, 5⟩, some ⟨.ints .u8 d, g4, false, 5⟩, some ⟨.ints .u8 z, g5, false, 5⟩, some ⟨.agg [.slice 1 0 g1 0 n1 none, .slice 1 1 g2 0 n2 none, .slice 1 2 g3 0 n3
 none, .int .i64 s, .slice 1 3 g4 0 n4 none, .slice 1 4 g5 0 n5 none], 0, true, 26⟩] := by kernel_rfl
noncomputable def nP37b (a b c d z : List Int) (g1 g2 g3 g4 g5 n1 n2 n3 n4 n5 : Nat) (s : Int) : Res := fnRunP eM1 psN1 f37 400 2 [.agg [.slice 1 0 g1 0 n1 none, .slice 1 1 g2 0 n2 none, .slice 1 2 g3 0 n3 none, .int .i64 s, .slice 1 3 g4 0 n4 none, .slice 1 4 g5 0 n5 none]] [some ⟨.ints .u8 a, g1, false, 5⟩, some ⟨.ints .u8 b, g2, false, 5⟩, some ⟨.ints .u8 c, g3, false, 5⟩, some ⟨.ints .u8 d, g4, false, 5⟩, some ⟨.ints .u8 z, g5, false, 5⟩] []
theorem nP37b_ok {a b c d z : List Int} {g1 g2 g3 g4 g5 n1 n2 n3 n4 n5 : Nat} {s : Int} (h : allP [.eqN g1 g1, .eqN g1 g1, .p (((↑n1 : Int) == 32) = true), .eqN g2 g2, .eqN g2 g2, .p (((↑n2 : Int) == 32) = false)]) : OkR (nP37b a b c d z g1 g2 g3 g4 g5 n1 n2 n3 n4 n5 s) := OkR.dem (fl := bitsF 12 455) (by kernel_rfl) (by kernel_rfl) (by kernel_rfl) h
theorem nP37b_val {a b c d z : List Int} {g1 g2 g3 g4 g5 n1 n2 n3 n4 n5 : Nat} {s : Int} : (nP37b a b c d z g1 g2 g3 g4 g5 n1 n2 n3 n4 n5 s).val = .iface 28 (.int .i64 1) := by kernel_rfl
theorem nP37b_tab {a b c d z : List Int} {g1 g2 g3 g4 g5 n1 n2 n3 n4 n5 : Nat} {s : Int} : (nP37b a b c d z g1 g2 g3 g4 g5 n1 n2 n3 n4 n5 s).tab = [some ⟨.ints .u8 a, g1, false, 5⟩, some ⟨.ints .u8 b, g2, false, 5⟩, some ⟨.ints .u8 c, g3, false, 5⟩, some ⟨.ints .u8 d, g4, false, 5⟩, some ⟨.ints .u8 z, g5, false, 5⟩, some ⟨.agg [.slice 1 0 g1 0 n1 none, .slice 1 1 g2 0 n2 none, .slice 1 2 g3 0 n3
 none, .int .i64 s, .slice 1 3 g4 0 n4 none, .slice 1 4 g5 0 n5 none], 0, true, 26⟩] := by kernel_rfl
noncomputable def nP37c (a b c d z : List Int) (g1 g2 g3 g4 g5 n1 n2 n3 n4 n5 : Nat) (s : Int) : Res := fnRunP eM1 psN1 f37 400 3 [.agg [.slice 1 0 g1 0 n1 none, .slice 1 1 g2 0 n2 none, .slice 1 2 g3 0 n3 none, .int .i64 s, .slice 1 3 g4 0 n4 none, .slice 1 4 g5 0 n5 none]] [some ⟨.ints .u8 a, g1, false, 5⟩, some ⟨.ints .u8 b, g2, false, 5⟩, some ⟨.ints .u8 c, g3, false, 5⟩, some ⟨.ints .u8 d, g4, false, 5⟩, some ⟨.ints .u8 z, g5, false, 5⟩] []
theorem nP37c_ok {a b c d z : List Int} {g1 g2 g3 g4 g5 n1 n2 n3 n4 n5 : Nat} {s : Int} (h : allP [.eqN g1 g1, .eqN g1 g1, .p (((↑n1 : Int) == 32) = true), .eqN g2 g2, .eqN g2 g2, .p (((↑n2 : Int) == 32) = true), .eqN g5 g5, .eqN g5 g5, .p (((↑n5 : Int) == 64) = false)]) : OkR (nP37c a b c d z g1 g2 g3 g4 g5 n1 n2 n3 n4 n5 s) := OkR.dem (fl := bitsF 18 29127) (by kernel_rfl) (by kernel_rfl) (by
 kernel_rfl) h
theorem nP37c_val {a b c d z : List Int} {g1 g2 g3 g4 g5 n1 n2 n3 n4 n5 : Nat} {s : Int} : (nP37c a b c d z g1 g2 g3 g4 g5 n1 n2 n3 n4 n5 s).val = .iface 28 (.int .i64 1) := by kernel_rfl
theorem nP37c_tab {a b c d z : List Int} {g1 g2 g3 g4 g5 n1 n2 n3 n4 n5 : Nat} {s : Int} : (nP37c a b c d z g1 g2 g3 g4 g5 n1 n2 n3 n4 n5 s).tab = [some ⟨.ints .u8 a, g1, false, 5⟩, some ⟨.ints .u8 b, g2, false, 5⟩, some ⟨.ints .u8 c, g3, false, 5⟩, some ⟨.ints .u8 d, g4, false, 5⟩, some ⟨.ints .u8 z, g5, false, 5⟩, some ⟨.agg [.slice 1 0 g1 0 n1 none, .slice 1 1 g2 0 n2 none, .slice 1 2 g3 0 n3
 none, .int .i64 s, .slice 1 3 g4 0 n4 none, .slice 1 4 g5 0 n5 none], 0, true, 26⟩] := by kernel_rfl
noncomputable def nP37d (a b c d z : List Int) (g1 g2 g3 g4 g5 n1 n2 n3 n4 n5 : Nat) (s : Int) : Res := fnRunP eM1 psN1 f37 400 4 [.agg [.slice 1 0 g1 0 n1 none, .slice 1 1 g2 0 n2 none, .slice 1 2 g3 0 n3 none, .int .i64 s, .slice 1 3 g4 0 n4 none, .slice 1 4 g5 0 n5 none]] [some ⟨.ints .u8 a, g1, false, 5⟩, some ⟨.ints .u8 b, g2, false, 5⟩, some ⟨.ints .u8 c, g3, false, 5⟩, some ⟨.ints .u8 d, g4, false, 5⟩, some ⟨.ints .u8 z, g5, false, 5⟩] [some false]
theorem nP37d_ok {a b c d z : List Int} {g1 g2 g3 g4 g5 n1 n2 n3 n4 n5 : Nat} {s : Int} (h : allP [.eqN g1 g1, .eqN g1 g1, .p (((↑n1 : Int) == 32) = true), .eqN g2 g2, .eqN g2 g2, .p (((↑n2 : Int) == 32) = true), .eqN g5 g5, .eqN g5 g5, .p (((↑n5 : Int) == 64) = true), .eqN g3 g3, .p (decide (1 ≤ (↑n3 : Int)) = false)]) : OkR (nP37d a b c d z g1 g2 g3 g4 g5 n1 n2 n3 n4 n5 s) := OkR.dem (fl := bitsF
 23 1864135) (by kernel_rfl) (by kernel_rfl) (by kernel_rfl) h
theorem nP37d_val {a b c d z : List Int} {g1 g2 g3 g4 g5 n1 n2 n3 n4 n5 : Nat} {s : Int} : (nP37d a b c d z g1 g2 g3 g4 g5 n1 n2 n3 n4 n5 s).val = .iface 28 (.int .i64 1) := by kernel_rfl
theorem nP37d_tab {a b c d z : List Int} {g1 g2 g3 g4 g5 n1 n2 n3 n4 n5 : Nat} {s : Int} : (nP37d a b c d z g1 g2 g3 g4 g5 n1 n2 n3 n4 n5 s).tab = [some ⟨.ints .u8 a, g1, false, 5⟩, some ⟨.ints .u8 b, g2, false, 5⟩, some ⟨.ints .u8 c, g3, false, 5⟩, some ⟨.ints .u8 d, g4, false, 5⟩, some ⟨.ints .u8 z, g5, false, 5⟩, some ⟨.agg [.slice 1 0 g1 0 n1 none, .slice 1 1 g2 0 n2 none, .slice 1 2 g3 0 n3
 none, .int .i64 s, .slice 1 3 g4 0 n4 none, .slice 1 4 g5 0 n5 none], 0, true, 26⟩] := by kernel_rfl
noncomputable def nP37e (a b c d z : List Int) (g1 g2 g3 g4 g5 n1 n2 n3 n4 n5 : Nat) (s : Int) : Res := fnRunP eM1 psN1 f37 400 4 [.agg [.slice 1 0 g1 0 n1 none, .slice 1 1 g2 0 n2 none, .slice 1 2 g3 0 n3 none, .int .i64 s, .slice 1 3 g4 0 n4 none, .slice 1 4 g5 0 n5 none]] [some ⟨.ints .u8 a, g1, false, 5⟩, some ⟨.ints .u8 b, g2, false, 5⟩, some ⟨.ints .u8 c, g3, false, 5⟩, some ⟨.ints .u8 d, g4, false, 5⟩, some ⟨.ints .u8 z, g5, false, 5⟩] [some true, some false]
theorem nP37e_ok {a b c d z : List Int} {g1 g2 g3 g4 g5 n1 n2 n3 n4 n5 : Nat} {s : Int} (h : allP [.eqN g1 g1, .eqN g1 g1, .p (((↑n1 : Int) == 32) = true), .eqN g2 g2, .eqN g2 g2, .p (((↑n2 : Int) == 32) = true), .eqN g5 g5, .eqN g5 g5, .p (((↑n5 : Int) == 64) = true), .eqN g3 g3, .p (decide (1 ≤ (↑n3 : Int)) = true), .eqN g3 g3, .p (decide ((↑n3 : Int) ≤ 64) = false)]) : OkR (nP37e a b c d z g1 g2
 g3 g4 g5 n1 n2 n3 n4 n5 s) := OkR.dem (fl := bitsF 28 60584391) (by kernel_rfl) (by kernel_rfl) (by kernel_rfl) h
theorem nP37e_val {a b c d z : List Int} {g1 g2 g3 g4 g5 n1 n2 n3 n4 n5 : Nat} {s : Int} : (nP37e a b c d z g1 g2 g3 g4 g5 n1 n2 n3 n4 n5 s).val = .iface 28 (.int .i64 1) := by kernel_rfl
theorem nP37e_tab {a b c d z : List Int} {g1 g2 g3 g4 g5 n1 n2 n3 n4 n5 : Nat} {s : Int} : (nP37e a b c d z g1 g2 g3 g4 g5 n1 n2 n3 n4 n5 s).tab = [some ⟨.ints .u8 a, g1, false, 5⟩, some ⟨.ints .u8 b, g2, false, 5⟩, some ⟨.ints .u8 c, g3, false, 5⟩, some ⟨.ints .u8 d, g4, false, 5⟩, some ⟨.ints .u8 z, g5, false, 5⟩, some ⟨.agg [.slice 1 0 g1 0 n1 none, .slice 1 1 g2 0 n2 none, .slice 1 2 g3 0 n3
 none, .int .i64 s, .slice 1 3 g4 0 n4 none, .slice 1 4 g5 0 n5 none], 0, true, 26⟩] := by kernel_rfl
noncomputable def nP37f (a b c d z : List Int) (g1 g2 g3 g4 g5 n1 n2 n3 n4 n5 : Nat) (s : Int) : Res := fnRunP eM1 psN1 f37 400 4 [.agg [.slice 1 0 g1 0 n1 none, .slice 1 1 g2 0 n2 none, .slice 1 2 g3 0 n3 none, .int .i64 s, .slice 1 3 g4 0 n4 none, .slice 1 4 g5 0 n5 none]] [some ⟨.ints .u8 a, g1, false, 5⟩, some ⟨.ints .u8 b, g2, false, 5⟩, some ⟨.ints .u8 c, g3, false, 5⟩, some ⟨.ints .u8 d, g4, false, 5⟩, some ⟨.ints .u8 z, g5, false, 5⟩] [some true, some true, some false]
theorem nP37f_ok {a b c d z : List Int} {g1 g2 g3 g4 g5 n1 n2 n3 n4 n5 : Nat} {s : Int} (h : allP [.eqN g1 g1, .eqN g1 g1, .p (((↑n1 : Int) == 32) = true), .eqN g2 g2, .eqN g2 g2, .p (((↑n2 : Int) == 32) = true), .eqN g5 g5, .eqN g5 g5, .p (((↑n5 : Int) == 64) = true), .eqN g3 g3, .p (decide (1 ≤ (↑n3 : Int)) = true), .eqN g3 g3, .p (decide ((↑n3 : Int) ≤ 64) = true), .p (decide (1 ≤ s) = false)])
 : OkR (nP37f a b c d z g1 g2 g3 g4 g5 n1 n2 n3 n4 n5 s) := OkR.dem (fl := bitsF 32 1939632583) (by kernel_rfl) (by kernel_rfl) (by kernel_rfl) h
theorem nP37f_val {a b c d z : List Int} {g1 g2 g3 g4 g5 n1 n2 n3 n4 n5 : Nat} {s : Int} : (nP37f a b c d z g1 g2 g3 g4 g5 n1 n2 n3 n4 n5 s).val = .iface 28 (.int .i64 1) := by kernel_rfl
theorem nP37f_tab {a b c d z : List Int} {g1 g2 g3 g4 g5 n1 n2 n3 n4 n5 : Nat} {s : Int} : (nP37f a b c d z g1 g2 g3 g4 g5 n1 n2 n3 n4 n5 s).tab = [some ⟨.ints .u8 a, g1, false, 5⟩, some ⟨.ints .u8 b, g2, false, 5⟩, some ⟨.ints .u8 c, g3, false, 5⟩, some ⟨.ints .u8 d, g4, false, 5⟩, some ⟨.ints .u8 z, g5, false, 5⟩, some ⟨.agg [.slice 1 0 g1 0 n1 none, .slice 1 1 g2 0 n2 none, .slice 1 2 g3 0 n3
 none, .int .i64 s, .slice 1 3 g4 0 n4 none, .slice 1 4 g5 0 n5 none], 0, true, 26⟩] := by kernel_rfl
noncomputable def nP37g (a b c d z : List Int) (g1 g2 g3 g4 g5 n1 n2 n3 n4 n5 : Nat) (s : Int) : Res := fnRunP eM1 psN1 f37 400 4 [.agg [.slice 1 0 g1 0 n1 none, .slice 1 1 g2 0 n2 none, .slice 1 2 g3 0 n3 none, .int .i64 s, .slice 1 3 g4 0 n4 none, .slice 1 4 g5 0 n5 none]] [some ⟨.ints .u8 a, g1, false, 5⟩, some ⟨.ints .u8 b, g2, false, 5⟩, some ⟨.ints .u8 c, g3, false, 5⟩, some ⟨.ints .u8 d, g4, false, 5⟩, some ⟨.ints .u8 z, g5, false, 5⟩] [some true, some true, some true, some false]
theorem nP37g_ok {a b c d z : List Int} {g1 g2 g3 g4 g5 n1 n2 n3 n4 n5 : Nat} {s : Int} (h : allP [.eqN g1 g1, .eqN g1 g1, .p (((↑n1 : Int) == 32) = true), .eqN g2 g2, .eqN g2 g2, .p (((↑n2 : Int) == 32) = true), .eqN g5 g5, .eqN g5 g5, .p (((↑n5 : Int) == 64) = true), .eqN g3 g3, .p (decide (1 ≤ (↑n3 : Int)) = true), .eqN g3 g3, .p (decide ((↑n3 : Int) ≤ 64) = true), .p (decide (1 ≤ s) = true), .p
 (decide (s ≤ 3) = false)]) : OkR (nP37g a b c d z g1 g2 g3 g4 g5 n1 n2 n3 n4 n5 s) := OkR.dem (fl := bitsF 36 32004403655) (by kernel_rfl) (by kernel_rfl) (by kernel_rfl) h
theorem nP37g_val {a b c d z : List Int} {g1 g2 g3 g4 g5 n1 n2 n3 n4 n5 : Nat} {s : Int} : (nP37g a b c d z g1 g2 g3 g4 g5 n1 n2 n3 n4 n5 s).val = .iface 28 (.int .i64 1) := by kernel_rfl
theorem nP37g_tab {a b c d z : List Int} {g1 g2 g3 g4 g5 n1 n2 n3 n4 n5 : Nat} {s : Int} : (nP37g a b c d z g1 g2 g3 g4 g5 n1 n2 n3 n4 n5 s).tab = [some ⟨.ints .u8 a, g1, false, 5⟩, some ⟨.ints .u8 b, g2, false, 5⟩, some ⟨.ints .u8 c, g3, false, 5⟩, some ⟨.ints .u8 d, g4, false, 5⟩, some ⟨.ints .u8 z, g5, false, 5⟩, some ⟨.agg [.slice 1 0 g1 0 n1 none, .slice 1 1 g2 0 n2 none, .slice 1 2 g3 0 n3
 none, .int .i64 s, .slice 1 3 g4 0 n4 none, .slice 1 4 g5 0 n5 none], 0, true, 26⟩] := by kernel_rfl
noncomputable def nP37h (a b c d z : List Int) (g1 g2 g3 g4 g5 n1 n2 n3 n4 n5 : Nat) (s : Int) : Res := fnRunP eM1 psN1 f37 400 5 [.agg [.slice 1 0 g1 0 n1 none, .slice 1 1 g2 0 n2 none, .slice 1 2 g3 0 n3 none, .int .i64 s, .slice 1 3 g4 0 n4 none, .slice 1 4 g5 0 n5 none]] [some ⟨.ints .u8 a, g1, false, 5⟩, some ⟨.ints .u8 b, g2, false, 5⟩, some ⟨.ints .u8 c, g3, false, 5⟩, some ⟨.ints .u8 d, g4, false, 5⟩, some ⟨.ints .u8 z, g5, false, 5⟩] [some true, some true, some true, some true, some false, some false]
theorem nP37h_ok {a b c d z : List Int} {g1 g2 g3 g4 g5 n1 n2 n3 n4 n5 : Nat} {s : Int} (h : allP [.eqN g1 g1, .eqN g1 g1, .p (((↑n1 : Int) == 32) = true), .eqN g2 g2, .eqN g2 g2, .p (((↑n2 : Int) == 32) = true), .eqN g5 g5, .eqN g5 g5, .p (((↑n5 : Int) == 64) = true), .eqN g3 g3, .p (decide (1 ≤ (↑n3 : Int)) = true), .eqN g3 g3, .p (decide ((↑n3 : Int) ≤ 64) = true), .p (decide (1 ≤ s) = true), .p
 (decide (s ≤ 3) = true), .eqN g4 g4, .p (((↑n4 : Int) == 0) = false), .eqN g4 g4, .p (((↑n4 : Int) == 32) = false)]) : OkR (nP37h a b c d z g1 g2 g3 g4 g5 n1 n2 n3 n4 n5 s) := OkR.dem (fl := bitsF 46 15906203529671) (by kernel_rfl) (by kernel_rfl) (by kernel_rfl) h
theorem nP37h_val {a b c d z : List Int} {g1 g2 g3 g4 g5 n1 n2 n3 n4 n5 : Nat} {s : Int} : (nP37h a b c d z g1 g2 g3 g4 g5 n1 n2 n3 n4 n5 s).val = .iface 28 (.int .i64 1) := by kernel_rfl
theorem nP37h_tab {a b c d z : List Int} {g1 g2 g3 g4 g5 n1 n2 n3 n4 n5 : Nat} {s : Int} : (nP37h a b c d z g1 g2 g3 g4 g5 n1 n2 n3 n4 n5 s).tab = [some ⟨.ints .u8 a, g1, false, 5⟩, some ⟨.ints .u8 b, g2, false, 5⟩, some ⟨.ints .u8 c, g3, false, 5⟩, some ⟨.ints .u8 d, g4, false, 5⟩, some ⟨.ints .u8 z, g5, false, 5⟩, some ⟨.agg [.slice 1 0 g1 0 n1 none, .slice 1 1 g2 0 n2 none, .slice 1 2 g3 0 n3
 none, .int .i64 s, .slice 1 3 g4 0 n4 none, .slice 1 4 g5 0 n5 none], 0, true, 26⟩] := by kernel_rfl
noncomputable def nP37i (a b c d z : List Int) (g1 g2 g3 g4 g5 n1 n2 n3 n4 n5 : Nat) (s : Int) : Res := fnRunP eM1 psN1 f37 400 5 [.agg [.slice 1 0 g1 0 n1 none, .slice 1 1 g2 0 n2 none, .slice 1 2 g3 0 n3 none, .int .i64 s, .slice 1 3 g4 0 n4 none, .slice 1 4 g5 0 n5 none]] [some ⟨.ints .u8 a, g1, false, 5⟩, some ⟨.ints .u8 b, g2, false, 5⟩, some ⟨.ints .u8 c, g3, false, 5⟩, some ⟨.ints .u8 d, g4, false, 5⟩, some ⟨.ints .u8 z, g5, false, 5⟩] [some true, some true, some true, some true, some false, some true, some false]
theorem nP37i_ok {a b c d z : List Int} {g1 g2 g3 g4 g5 n1 n2 n3 n4 n5 : Nat} {s : Int} (h : allP [.eqN g1 g1, .eqN g1 g1, .p (((↑n1 : Int) == 32) = true), .eqN g2 g2, .eqN g2 g2, .p (((↑n2 : Int) == 32) = true), .eqN g5 g5, .eqN g5 g5, .p (((↑n5 : Int) == 64) = true), .eqN g3 g3, .p (decide (1 ≤ (↑n3 : Int)) = true), .eqN g3 g3, .p (decide ((↑n3 : Int) ≤ 64) = true), .p (decide (1 ≤ s) = true), .p
 (decide (s ≤ 3) = true), .eqN g4 g4, .p (((↑n4 : Int) == 0) = false), .eqN g4 g4, .p (((↑n4 : Int) == 32) = true), .p ((s == 3) = false)]) : OkR (nP37i a b c d z g1 g2 g3 g4 g5 n1 n2 n3 n4 n5 s) := OkR.dem (fl := bitsF 50 508487412773319) (by kernel_rfl) (by kernel_rfl) (by kernel_rfl) h
theorem nP37i_val {a b c d z : List Int} {g1 g2 g3 g4 g5 n1 n2 n3 n4 n5 : Nat} {s : Int} : (nP37i a b c d z g1 g2 g3 g4 g5 n1 n2 n3 n4 n5 s).val = .iface 28 (.int .i64 1) := by kernel_rfl
theorem nP37i_tab {a b c d z : List Int} {g1 g2 g3 g4 g5 n1 n2 n3 n4 n5 : Nat} {s : Int} : (nP37i a b c d z g1 g2 g3 g4 g5 n1 n2 n3 n4 n5 s).tab = [some ⟨.ints .u8 a, g1, false, 5⟩, some ⟨.ints .u8 b, g2, false, 5⟩, some ⟨.ints .u8 c, g3, false, 5⟩, some ⟨.ints .u8 d, g4, false, 5⟩, some ⟨.ints .u8 z, g5, false, 5⟩, some ⟨.agg [.slice 1 0 g1 0 n1 none, .slice 1 1 g2 0 n2 none, .slice 1 2 g3 0 n3
 none, .int .i64 s, .slice 1 3 g4 0 n4 none, .slice 1 4 g5 0 n5 none], 0, true, 26⟩] := by kernel_rfl
noncomputable def nsm37c (args : List AVal) (T : Tab) (a : List Int) (b : List Int) (c : List Int) (d : List Int) (z : List Int) (g1 : Nat) (g2 : Nat) (g3 : Nat) (g4 : Nat) (g5 : Nat) (n1 : Nat) (n2 : Nat) (n3 : Nat) (n4 : Nat) (n5 : Nat) (s : Int) : Res := ⟨[.tab T [some ⟨.ints .u8 a, g1, false, 5⟩, some ⟨.ints .u8 b, g2, false, 5⟩, some ⟨.ints .u8 c, g3, false, 5⟩, some ⟨.ints .u8 d, g4, false, 5⟩, some ⟨.ints .u8 z, g5, false, 5⟩], .val (.tuple args) (.tuple [.agg [.slice 1 0 g1 0 n1 none, .slice 1 1 g2 0 n2 none, .slice 1 2 g3 0 n3 none, .int .i64 s, .slice 1 3 g4 0 n4 none, .slice 1 4 g5 0 n5 none]]), .p (RightN n1 n2 n3 s n4 n5)], un, [some ⟨.ints .u8 a, g1, false, 5⟩, some ⟨.ints .u8 b, g2, false, 5⟩, some ⟨.ints .u8 c, g3, false, 5⟩, some ⟨.ints .u8 d, g4, false, 5⟩, some ⟨.ints .u8 z, g5, false, 5⟩]⟩
theorem nsm37c_ok {args : List AVal} {T : Tab} {a : List Int} {b : List Int} {c : List Int} {d : List Int} {z : List Int} {g1 : Nat} {g2 : Nat} {g3 : Nat} {g4 : Nat} {g5 : Nat} {n1 : Nat} {n2 : Nat} {n3 : Nat} {n4 : Nat} {n5 : Nat} {s : Int} (h : allP (nsm37c args T a b c d z g1 g2 g3 g4 g5 n1 n2 n3 n4 n5 s).cs) : Small prog (fun _ => none) 37 args T (nsm37c args T a b c d z g1 g2 g3 g4 g5 n1 n2 n3 n4 n5 s).val (nsm37c args T a b c d z g1 g2 g3 g4 g5 n1 n2 n3 n4 n5 s).tab := by
  obtain ⟨hT, hv, h1, _⟩ := h
  simp only [Con.h] at hT hv h1
  injection hv with hv
  subst hT hv
  have h1 : RightN n1 n2 n3 s n4 n5 := h1
  obtain ⟨q1, q2, q3, q4, q5, q6, q7, q8⟩ := h1
  rcases q8 with q8 | ⟨q8, q9⟩
  · exact small_drop (small_of (R := nR37e a b c d z g1 g2 g3 g4 g5 n1 n2 n3 n4 n5 s) eM1_ok hmN (f := 37) (fn := f37) (by kernel_rfl) (by kernel_rfl) FnOrc.nil rfl (nR37e_ok (by
      simp only [allP, Con.h, eq_self, true_and, and_true, beq_iff_eq, beq_eq_false_iff_ne, ne_eq, decide_eq_true_eq, decide_eq_false_iff_not]
      omega)) nR37e_val nR37e_tab)
  · exact small_drop (small_of (R := nR37h a b c d z g1 g2 g3 g4 g5 n1 n2 n3 n4 n5 s) eM1_ok hmN (f := 37) (fn := f37) (by kernel_rfl) (by kernel_rfl) FnOrc.nil rfl (nR37h_ok (by
      simp only [allP, Con.h, eq_self, true_and, and_true, beq_iff_eq, beq_eq_false_iff_ne, ne_eq, decide_eq_true_eq, decide_eq_false_iff_not]
      omega)) nR37h_val nR37h_tab)
noncomputable def nsm37 : Summary := fun args T => nsm37c args T (xsAt T 0) (xsAt T 1) (xsAt T 2) (xsAt T 3) (xsAt T 4) (gAt T 0) (gAt T 1) (gAt T 2) (gAt T 3) (gAt T 4) (lenOf ((vAt args 0).get 0)) (lenOf ((vAt args 0).get 1)) (lenOf ((vAt args 0).get 2)) (lenOf ((vAt args 0).get 4)) (lenOf ((vAt args 0).get 5)) (iOf ((vAt args 0).get 3))
theorem nsm37_ok : SmOk prog (fun _ => none) 37 nsm37 := fun args T h => nsm37c_ok h
noncomputable def nS37 : Summary := callR nsm37 []
theorem nS37_ok : SumOk prog (fun _ => none) 37 nS37 := callR_ok nsm37_ok []
noncomputable def nsm37pc (args : List AVal) (T : Tab) (a : List Int) (b : List Int) (c : List Int) (d : List Int) (z : List Int) (g1 : Nat) (g2 : Nat) (g3 : Nat) (g4 : Nat) (g5 : Nat) (n1 : Nat) (n2 : Nat) (n3 : Nat) (n4 : Nat) (n5 : Nat) (s : Int) : Res := ⟨[.tab T [some ⟨.ints .u8 a, g1, false, 5⟩, some ⟨.ints .u8 b, g2, false, 5⟩, some ⟨.ints .u8 c, g3, false, 5⟩, some ⟨.ints .u8 d, g4, false, 5⟩, some ⟨.ints .u8 z, g5, false, 5⟩], .val (.tuple args) (.tuple [.agg [.slice 1 0 g1 0 n1 none, .slice 1 1 g2 0 n2 none, .slice 1 2 g3 0 n3 none, .int .i64 s, .slice 1 3 g4 0 n4 none, .slice 1 4 g5 0 n5 none]]), .p (¬ RightN n1 n2 n3 s n4 n5)], (.iface 28 (.int .i64 1)), [some ⟨.ints .u8 a, g1, false, 5⟩, some ⟨.ints .u8 b, g2, false, 5⟩, some ⟨.ints .u8 c, g3, false, 5⟩, some ⟨.ints .u8 d, g4, false, 5⟩, some ⟨.ints .u8 z, g5, false, 5⟩]⟩
theorem nsm37pc_ok {args : List AVal} {T : Tab} {a : List Int} {b : List Int} {c : List Int} {d : List Int} {z : List Int} {g1 : Nat} {g2 : Nat} {g3 : Nat} {g4 : Nat} {g5 : Nat} {n1 : Nat} {n2 : Nat} {n3 : Nat} {n4 : Nat} {n5 : Nat} {s : Int} (h : allP (nsm37pc args T a b c d z g1 g2 g3 g4 g5 n1 n2 n3 n4 n5 s).cs) : SmallE finP prog (fun _ => none) 37 args T (nsm37pc args T a b c d z g1 g2 g3 g4 g5 n1 n2 n3 n4 n5 s).val (nsm37pc args T a b c d z g1 g2 g3 g4 g5 n1 n2 n3 n4 n5 s).tab := by
  obtain ⟨hT, hv, h1, _⟩ := h
  simp only [Con.h] at hT hv h1
  injection hv with hv
  subst hT hv
  have h1 : ¬ RightN n1 n2 n3 s n4 n5 := h1
  unfold RightN at h1
  by_cases qa : n1 = 32
  rotate_left
  · exact small_drop (small_ofP (R := nP37a a b c d z g1 g2 g3 g4 g5 n1 n2 n3 n4 n5 s) eM1_ok hmN psN1_ok (f := 37) (fn := f37) (by kernel_rfl) rfl (nP37a_ok (by
      simp only [allP, Con.h, eq_self, true_and, and_true, beq_iff_eq, beq_eq_false_iff_ne, ne_eq, decide_eq_true_eq, decide_eq_false_iff_not]
      omega)) nP37a_val nP37a_tab)
  by_cases qb : n2 = 32
  rotate_left
  · exact small_drop (small_ofP (R := nP37b a b c d z g1 g2 g3 g4 g5 n1 n2 n3 n4 n5 s) eM1_ok hmN psN1_ok (f := 37) (fn := f37) (by kernel_rfl) rfl (nP37b_ok (by
      simp only [allP, Con.h, eq_self, true_and, and_true, beq_iff_eq, beq_eq_false_iff_ne, ne_eq, decide_eq_true_eq, decide_eq_false_iff_not]
      omega)) nP37b_val nP37b_tab)
  by_cases qc : n5 = 64
  rotate_left
  · exact small_drop (small_ofP (R := nP37c a b c d z g1 g2 g3 g4 g5 n1 n2 n3 n4 n5 s) eM1_ok hmN psN1_ok (f := 37) (fn := f37) (by kernel_rfl) rfl (nP37c_ok (by
      simp only [allP, Con.h, eq_self, true_and, and_true, beq_iff_eq, beq_eq_false_iff_ne, ne_eq, decide_eq_true_eq, decide_eq_false_iff_not]
      omega)) nP37c_val nP37c_tab)
  by_cases qd : 1 ≤ n3
  rotate_left
  · exact small_drop (small_ofP (R := nP37d a b c d z g1 g2 g3 g4 g5 n1 n2 n3 n4 n5 s) eM1_ok hmN psN1_ok (f := 37) (fn := f37) (by kernel_rfl) rfl (nP37d_ok (by
      simp only [allP, Con.h, eq_self, true_and, and_true, beq_iff_eq, beq_eq_false_iff_ne, ne_eq, decide_eq_true_eq, decide_eq_false_iff_not]
      omega)) nP37d_val nP37d_tab)
  by_cases qe : n3 ≤ 64
  rotate_left
  · exact small_drop (small_ofP (R := nP37e a b c d z g1 g2 g3 g4 g5 n1 n2 n3 n4 n5 s) eM1_ok hmN psN1_ok (f := 37) (fn := f37) (by kernel_rfl) rfl (nP37e_ok (by
      simp only [allP, Con.h, eq_self, true_and, and_true, beq_iff_eq, beq_eq_false_iff_ne, ne_eq, decide_eq_true_eq, decide_eq_false_iff_not]
      omega)) nP37e_val nP37e_tab)
  by_cases qf : 1 ≤ s
  rotate_left
  · exact small_drop (small_ofP (R := nP37f a b c d z g1 g2 g3 g4 g5 n1 n2 n3 n4 n5 s) eM1_ok hmN psN1_ok (f := 37) (fn := f37) (by kernel_rfl) rfl (nP37f_ok (by
      simp only [allP, Con.h, eq_self, true_and, and_true, beq_iff_eq, beq_eq_false_iff_ne, ne_eq, decide_eq_true_eq, decide_eq_false_iff_not]
      omega)) nP37f_val nP37f_tab)
  by_cases qg : s ≤ 3
  rotate_left
  · exact small_drop (small_ofP (R := nP37g a b c d z g1 g2 g3 g4 g5 n1 n2 n3 n4 n5 s) eM1_ok hmN psN1_ok (f := 37) (fn := f37) (by kernel_rfl) rfl (nP37g_ok (by
      simp only [allP, Con.h, eq_self, true_and, and_true, beq_iff_eq, beq_eq_false_iff_ne, ne_eq, decide_eq_true_eq, decide_eq_false_iff_not]
      omega)) nP37g_val nP37g_tab)
  by_cases qh : n4 = 0 ∨ n4 = 32
  rotate_left
  · exact small_drop (small_ofP (R := nP37h a b c d z g1 g2 g3 g4 g5 n1 n2 n3 n4 n5 s) eM1_ok hmN psN1_ok (f := 37) (fn := f37) (by kernel_rfl) rfl (nP37h_ok (by
      simp only [allP, Con.h, eq_self, true_and, and_true, beq_iff_eq, beq_eq_false_iff_ne, ne_eq, decide_eq_true_eq, decide_eq_false_iff_not]
      omega)) nP37h_val nP37h_tab)
  by_cases qi : n4 = 0 ∨ s = 3
  rotate_left
  · exact small_drop (small_ofP (R := nP37i a b c d z g1 g2 g3 g4 g5 n1 n2 n3 n4 n5 s) eM1_ok hmN psN1_ok (f := 37) (fn := f37) (by kernel_rfl) rfl (nP37i_ok (by
      simp only [allP, Con.h, eq_self, true_and, and_true, beq_iff_eq, beq_eq_false_iff_ne, ne_eq, decide_eq_true_eq, decide_eq_false_iff_not]
      omega)) nP37i_val nP37i_tab)
  exfalso
  omega
noncomputable def nsm37p : Summary := fun args T => nsm37pc args T (xsAt T 0) (xsAt T 1) (xsAt T 2) (xsAt T 3) (xsAt T 4) (gAt T 0) (gAt T 1) (gAt T 2) (gAt T 3) (gAt T 4) (lenOf ((vAt args 0).get 0)) (lenOf ((vAt args 0).get 1)) (lenOf ((vAt args 0).get 2)) (lenOf ((vAt args 0).get 4)) (lenOf ((vAt args 0).get 5)) (iOf ((vAt args 0).get 3))
theorem nsm37p_ok : SmOkP prog (fun _ => none) 37 nsm37p := fun args T h => nsm37pc_ok h
noncomputable def nP37 : Summary := callR nsm37p []
theorem nP37_ok : SumOkP prog (fun _ => none) 37 nP37 := callR_okP nsm37p_ok []
end Go.Abs

set_option linter.unusedVariables false
set_option linter.unusedSimpArgs false
set_option maxRecDepth 100000
set_option maxHeartbeats 4000000
namespace Go.Abs
open Go.Proofs Go.Proofs.Try
end Go.Abs

set_option linter.unusedVariables false
set_option linter.unusedSimpArgs false
set_option maxRecDepth 100000
set_option maxHeartbeats 4000000
namespace Go.Abs
open Go.Proofs Go.Proofs.Try
end Go.Abs

set_option linter.unusedVariables false
set_option linter.unusedSimpArgs false
set_option maxRecDepth 100000
namespace Go.Abs
open Go.Proofs Go.Proofs.Try
/-! ### CodecNumbers: what was written is read back -/
theorem mid_get {P x S : List Int} {i : Nat} (h : i < x.length) : (P ++ x ++ S).getD (P.length + i) 0 = x.getD i 0 := by
  rw [List.getD_eq_getElem?_getD, List.getD_eq_getElem?_getD, List.append_assoc, List.getElem?_append_right (by omega), show P.length + i - P.length = i by omega, List.getElem?_append_left h]
theorem iand_mod {a : Int} (k : Nat) (ha : 0 ≤ a) : iand a ((2 : Int) ^ k - 1) = a % 2 ^ k := by
  obtain ⟨n, rfl⟩ := Int.eq_ofNat_of_zero_le ha
  have e : ((2 : Int) ^ k - 1) = ((2 ^ k - 1 : Nat) : Int) := by
    have : 1 ≤ 2 ^ k := Nat.one_le_two_pow
    rw [Int.ofNat_sub this]
    simp
  unfold iand
  rw [e, Int.toNat_natCast, Int.toNat_natCast, Nat.and_two_pow_sub_one_eq_mod]
  simp
theorem be_back1 {P S : List Int} {n : Int} (h0 : 0 ≤ n) (h1 : n < 256) : beN 1 (P ++ beLaw n 1 ++ S) P.length = n := by
  have g0 : (P ++ beLaw n 1 ++ S).getD (P.length + 0) 0 = n % 256 := by rw [mid_get (by show 0 < 1; decide)]; show n / 1 % 256 = _; omega
  unfold beN beN
  rw [g0]
  omega
theorem be_back2 {P S : List Int} {n : Int} (h0 : 0 ≤ n) (h1 : n < 65536) : beN 2 (P ++ beLaw n 2 ++ S) P.length = n := by
  have g0 : (P ++ beLaw n 2 ++ S).getD (P.length + 0) 0 = n / 256 % 256 := by rw [mid_get (by show 0 < 2; decide)]; rfl
  have g1 : (P ++ beLaw n 2 ++ S).getD (P.length + 1) 0 = n / 1 % 256 := by rw [mid_get (by show 1 < 2; decide)]; rfl
  unfold beN beN beN
  rw [g0, g1]
  omega
theorem be_back4 {P S : List Int} {n : Int} (h0 : 0 ≤ n) (h1 : n < 4294967296) : beN 4 (P ++ beLaw n 4 ++ S) P.length = n := by
  have g0 : (P ++ beLaw n 4 ++ S).getD (P.length + 0) 0 = n / 16777216 % 256 := by rw [mid_get (by show 0 < 4; decide)]; rfl
  have g1 : (P ++ beLaw n 4 ++ S).getD (P.length + 1) 0 = n / 65536 % 256 := by rw [mid_get (by show 1 < 4; decide)]; rfl
  have g2 : (P ++ beLaw n 4 ++ S).getD (P.length + 2) 0 = n / 256 % 256 := by rw [mid_get (by show 2 < 4; decide)]; rfl
  have g3 : (P ++ beLaw n 4 ++ S).getD (P.length + 3) 0 = n / 1 % 256 := by rw [mid_get (by show 3 < 4; decide)]; rfl
  unfold beN beN beN beN beN
  rw [g0, g1, g2, g3]
  omega
theorem be_back8 {P S : List Int} {n : Int} (h0 : 0 ≤ n) (h1 : n < 4611686018427387904) : beN 8 (P ++ beLaw n 8 ++ S) P.length = n := by
  have g0 : (P ++ beLaw n 8 ++ S).getD (P.length + 0) 0 = n / 72057594037927936 % 256 := by rw [mid_get (by show 0 < 8; decide)]; rfl
  have g1 : (P ++ beLaw n 8 ++ S).getD (P.length + 1) 0 = n / 281474976710656 % 256 := by rw [mid_get (by show 1 < 8; decide)]; rfl
  have g2 : (P ++ beLaw n 8 ++ S).getD (P.length + 2) 0 = n / 1099511627776 % 256 := by rw [mid_get (by show 2 < 8; decide)]; rfl
  have g3 : (P ++ beLaw n 8 ++ S).getD (P.length + 3) 0 = n / 4294967296 % 256 := by rw [mid_get (by show 3 < 8; decide)]; rfl
  have g4 : (P ++ beLaw n 8 ++ S).getD (P.length + 4) 0 = n / 16777216 % 256 := by rw [mid_get (by show 4 < 8; decide)]; rfl
  have g5 : (P ++ beLaw n 8 ++ S).getD (P.length + 5) 0 = n / 65536 % 256 := by rw [mid_get (by show 5 < 8; decide)]; rfl
  have g6 : (P ++ beLaw n 8 ++ S).getD (P.length + 6) 0 = n / 256 % 256 := by rw [mid_get (by show 6 < 8; decide)]; rfl
  have g7 : (P ++ beLaw n 8 ++ S).getD (P.length + 7) 0 = n / 1 % 256 := by rw [mid_get (by show 7 < 8; decide)]; rfl
  unfold beN beN beN beN beN beN beN beN beN
  rw [g0, g1, g2, g3, g4, g5, g6, g7]
  omega
theorem rn_back {P S : List Int} {n size : Int} (hs : sizedLaw size) (h0 : 0 ≤ n) (h1 : n < mostLaw size) : rnP (P ++ numLaw n size ++ S) P.length 0 size = (n, P.length + (numLaw n size).length, 0) := by
  rw [(num_in hs ⟨h0, h1⟩).1]
  have hl : (beLaw n size.toNat).length = size.toNat := by unfold beLaw; simp
  have hlow : LowLaw (P ++ beLaw n size.toNat ++ S) P.length size := fun h8 => by
    subst h8
    have g0 : (P ++ beLaw n 8 ++ S).getD (P.length + 0) 0 = n / 72057594037927936 % 256 := by rw [mid_get (by show 0 < 8; decide)]; rfl
    have h1' : n < 4611686018427387904 := h1
    show (P ++ beLaw n 8 ++ S).getD (P.length + 0) 0 < 64
    rw [g0]
    omega
  have hlen : ¬ (((P ++ beLaw n size.toNat ++ S).length - P.length : Nat) : Int) < size := by
    simp only [List.length_append, hl]
    omega
  rw [rn_g hs hlen hlow, hl]
  have hv : numAtLaw size.toNat (P ++ beLaw n size.toNat ++ S) P.length = n := by
    rcases hs with rfl | rfl | rfl | rfl
    · exact be_back1 h0 h1
    · exact be_back2 h0 h1
    · exact be_back4 h0 h1
    · exact be_back8 h0 h1
  rw [hv]
theorem rl_back {P S : List Int} {n : Int} (h0 : 0 ≤ n) (h1 : n < 1073741824) : rlP (P ++ lenLaw n ++ S) P.length 0 = (n, P.length + (lenLaw n).length, 0) := by
  by_cases ha : n < 64
  · rw [(len_a h0 ha).1]
    have g0 : (P ++ [n / 1 % 256] ++ S).getD (P.length + 0) 0 = n / 1 % 256 := mid_get (by show 0 < 1; decide)
    rw [Nat.add_zero] at g0
    have hl : (P ++ [n / 1 % 256] ++ S).length = P.length + 1 + S.length := by simp; omega
    have hv : iand (numAtLaw 1 (P ++ [n / 1 % 256] ++ S) P.length) 63 = n := by
      have e : numAtLaw 1 (P ++ [n / 1 % 256] ++ S) P.length = n := by
        show beN 1 _ _ = n
        unfold beN beN
        rw [Nat.add_zero, g0]
        omega
      rw [e]
      have := iand_mod 6 h0
      rw [show ((2 : Int) ^ 6 - 1) = 63 by decide, show ((2 : Int) ^ 6) = 64 by decide] at this
      rw [this]
      omega
    rw [rl_0 (by rw [hl]; omega) (by rw [g0]; omega), rlT_g (by rw [hl]; omega) (by rw [hv]; omega), hv]
    rfl
  by_cases hb : n < 16384
  · rw [(len_b (by omega) hb).1]
    have g0 : (P ++ [(n + 16384) / 256 % 256, (n + 16384) / 1 % 256] ++ S).getD (P.length + 0) 0 = (n + 16384) / 256 % 256 := mid_get (by show 0 < 2; decide)
    have g1 : (P ++ [(n + 16384) / 256 % 256, (n + 16384) / 1 % 256] ++ S).getD (P.length + 1) 0 = (n + 16384) / 1 % 256 := mid_get (by show 1 < 2; decide)
    rw [Nat.add_zero] at g0
    have hl : (P ++ [(n + 16384) / 256 % 256, (n + 16384) / 1 % 256] ++ S).length = P.length + 2 + S.length := by simp; omega
    have hv : iand (numAtLaw 2 (P ++ [(n + 16384) / 256 % 256, (n + 16384) / 1 % 256] ++ S) P.length) 16383 = n := by
      have e : numAtLaw 2 (P ++ [(n + 16384) / 256 % 256, (n + 16384) / 1 % 256] ++ S) P.length = n + 16384 := by
        show beN 2 _ _ = n + 16384
        unfold beN beN beN
        rw [Nat.add_zero, g0, g1]
        omega
      rw [e]
      have := iand_mod (a := n + 16384) 14 (by omega)
      rw [show ((2 : Int) ^ 14 - 1) = 16383 by decide, show ((2 : Int) ^ 14) = 16384 by decide] at this
      rw [this]
      omega
    rw [rl_1 (by rw [hl]; omega) (by rw [g0]; omega), rlT_g (by rw [hl]; omega) (by rw [hv]; omega), hv]
    rfl
  · rw [(len_c (by omega) h1).1]
    have g0 : (P ++ [(n + 2147483648) / 16777216 % 256, (n + 2147483648) / 65536 % 256, (n + 2147483648) / 256 % 256, (n + 2147483648) / 1 % 256] ++ S).getD (P.length + 0) 0 = (n + 2147483648) / 16777216 % 256 := mid_get (by show 0 < 4; decide)
    have g1 : (P ++ [(n + 2147483648) / 16777216 % 256, (n + 2147483648) / 65536 % 256, (n + 2147483648) / 256 % 256, (n + 2147483648) / 1 % 256] ++ S).getD (P.length + 1) 0 = (n + 2147483648) / 65536 % 256 := mid_get (by show 1 < 4; decide)
    have g2 : (P ++ [(n + 2147483648) / 16777216 % 256, (n + 2147483648) / 65536 % 256, (n + 2147483648) / 256 % 256, (n + 2147483648) / 1 % 256] ++ S).getD (P.length + 2) 0 = (n + 2147483648) / 256 % 256 := mid_get (by show 2 < 4; decide)
    have g3 : (P ++ [(n + 2147483648) / 16777216 % 256, (n + 2147483648) / 65536 % 256, (n + 2147483648) / 256 % 256, (n + 2147483648) / 1 % 256] ++ S).getD (P.length + 3) 0 = (n + 2147483648) / 1 % 256 := mid_get (by show 3 < 4; decide)
    rw [Nat.add_zero] at g0
    have hl : (P ++ [(n + 2147483648) / 16777216 % 256, (n + 2147483648) / 65536 % 256, (n + 2147483648) / 256 % 256, (n + 2147483648) / 1 % 256] ++ S).length = P.length + 4 + S.length := by simp; omega
    have hv : iand (numAtLaw 4 (P ++ [(n + 2147483648) / 16777216 % 256, (n + 2147483648) / 65536 % 256, (n + 2147483648) / 256 % 256, (n + 2147483648) / 1 % 256] ++ S) P.length) 1073741823 = n := by
      have e : numAtLaw 4 (P ++ [(n + 2147483648) / 16777216 % 256, (n + 2147483648) / 65536 % 256, (n + 2147483648) / 256 % 256, (n + 2147483648) / 1 % 256] ++ S) P.length = n + 2147483648 := by
        show beN 4 _ _ = n + 2147483648
        unfold beN beN beN beN beN
        rw [Nat.add_zero, g0, g1, g2, g3]
        omega
      rw [e]
      have := iand_mod (a := n + 2147483648) 30 (by omega)
      rw [show ((2 : Int) ^ 30 - 1) = 1073741823 by decide, show ((2 : Int) ^ 30) = 1073741824 by decide] at this
      rw [this]
      omega
    rw [rl_2 (by rw [hl]; omega) (by rw [g0]; omega), rlT_g (by rw [hl]; omega) (by rw [hv]; omega), hv]
    rfl
end Go.Abs

set_option linter.unusedVariables false
set_option linter.unusedSimpArgs false
set_option maxRecDepth 100000
set_option maxHeartbeats 4000000
namespace Go.Abs
open Go.Proofs Go.Proofs.Try
end Go.Abs

set_option linter.unusedVariables false
set_option linter.unusedSimpArgs false
set_option maxRecDepth 100000
set_option maxHeartbeats 4000000
namespace Go.Abs
open Go.Proofs Go.Proofs.Try
end Go.Abs

set_option linter.unusedVariables false
set_option linter.unusedSimpArgs false
set_option maxRecDepth 100000
set_option maxHeartbeats 4000000
namespace Go.Abs
open Go.Proofs Go.Proofs.Try
end Go.Abs

set_option linter.unusedVariables false
set_option linter.unusedSimpArgs false
set_option maxRecDepth 100000
set_option maxHeartbeats 4000000
namespace Go.Abs
open Go.Proofs Go.Proofs.Try
end Go.Abs

set_option linter.unusedVariables false
set_option linter.unusedSimpArgs false
set_option maxRecDepth 100000
namespace Go.Abs
open Go.Proofs Go.Proofs.Try
end Go.Abs

set_option linter.unusedVariables false
set_option linter.unusedSimpArgs false
set_option maxRecDepth 100000
set_option maxHeartbeats 4000000
namespace Go.Abs
open Go.Proofs Go.Proofs.Try
end Go.Abs

set_option linter.unusedVariables false
set_option linter.unusedSimpArgs false
set_option maxRecDepth 100000
set_option maxHeartbeats 4000000
namespace Go.Abs
open Go.Proofs Go.Proofs.Try
end Go.Abs

set_option linter.unusedVariables false
set_option linter.unusedSimpArgs false
set_option maxRecDepth 100000
set_option maxHeartbeats 4000000
namespace Go.Abs
open Go.Proofs Go.Proofs.Try
end Go.Abs

set_option linter.unusedVariables false
set_option linter.unusedSimpArgs false
set_option maxRecDepth 100000
set_option maxHeartbeats 4000000
namespace Go.Abs
open Go.Proofs Go.Proofs.Try
/-! ### Vectors: one behind the other -/
def vec1Law (bs : List Int) : List Int := lenLaw bs.length ++ bs
def FitZLaw (Y : List (List Int)) : Prop := ∀ b ∈ Y, b.length ≤ 65536
instance (Y : List (List Int)) : Decidable (FitZLaw Y) := by unfold FitZLaw; exact inferInstance
end Go.Abs

set_option linter.unusedVariables false
set_option linter.unusedSimpArgs false
set_option maxRecDepth 100000
set_option maxHeartbeats 4000000
namespace Go.Abs
open Go.Proofs Go.Proofs.Try
end Go.Abs

set_option linter.unusedVariables false
set_option linter.unusedSimpArgs false
set_option maxRecDepth 100000
set_option maxHeartbeats 4000000
namespace Go.Abs
open Go.Proofs Go.Proofs.Try
end Go.Abs

set_option linter.unusedVariables false
set_option linter.unusedSimpArgs false
set_option maxRecDepth 100000
set_option maxHeartbeats 4000000
namespace Go.Abs
open Go.Proofs Go.Proofs.Try
end Go.Abs

set_option linter.unusedVariables false
set_option linter.unusedSimpArgs false
set_option maxRecDepth 100000
set_option maxHeartbeats 4000000
namespace Go.Abs
open Go.Proofs Go.Proofs.Try
end Go.Abs

set_option linter.unusedVariables false
set_option linter.unusedSimpArgs false
set_option maxRecDepth 100000
set_option maxHeartbeats 4000000
namespace Go.Abs
open Go.Proofs Go.Proofs.Try
end Go.Abs

set_option linter.unusedVariables false
set_option linter.unusedSimpArgs false
set_option maxRecDepth 100000
set_option maxHeartbeats 4000000
namespace Go.Abs
open Go.Proofs Go.Proofs.Try
end Go.Abs

set_option linter.unusedVariables false
set_option linter.unusedSimpArgs false
set_option maxRecDepth 100000
set_option maxHeartbeats 4000000
namespace Go.Abs
open Go.Proofs Go.Proofs.Try
end Go.Abs

set_option linter.unusedVariables false
set_option linter.unusedSimpArgs false
set_option maxRecDepth 100000
set_option maxHeartbeats 4000000
namespace Go.Abs
open Go.Proofs Go.Proofs.Try
theorem rv_at {P row S : List Int} (h : row.length ≤ 65536) : rvP (P ++ (vec1Law row ++ S)) P.length 0 = (row, P.length + (vec1Law row).length, 0) := by
  have hr := rl_back (P := P) (S := row ++ S) (n := row.length) (by omega) (by omega)
  rw [List.append_assoc] at hr
  have hc : P ++ (vec1Law row ++ S) = P ++ (lenLaw row.length ++ (row ++ S)) := by unfold vec1Law; rw [List.append_assoc]
  rw [hc]
  generalize hC : P ++ (lenLaw row.length ++ (row ++ S)) = C at hr ⊢
  have hV : rlVLaw C P.length 0 = row.length := by unfold rlVLaw; rw [hr]
  have hO : rlOLaw C P.length 0 = P.length + (lenLaw row.length).length := by unfold rlOLaw; rw [hr]
  have hE : rlELaw C P.length 0 = 0 := by unfold rlELaw; rw [hr]
  have e1 : rvE1 C P.length = 0 := by unfold rvE1; rw [if_neg (by rw [hV]; omega), hE]
  have hlen : C.length = P.length + (lenLaw row.length).length + row.length + S.length := by rw [← hC]; simp; omega
  have hrt : rtP C (P.length + (lenLaw row.length).length) 0 (row.length : Int) = (row, P.length + (lenLaw row.length).length + row.length, 0) := by
    rw [rt_g (by rw [hlen]; omega)]
    have : subLaw C (P.length + (lenLaw row.length).length) row.length = row := by
      unfold subLaw
      rw [← hC, ← List.append_assoc, List.drop_left' (by simp), List.take_left' rfl]
    rw [this]
  have h2 : rtELaw C (rlOLaw C P.length 0) 0 (rlVLaw C P.length 0) = 0 := by unfold rtELaw; rw [hO, hV, hrt]
  rw [rv_g e1 h2]
  unfold rtVLaw rtOLaw rtELaw
  rw [hO, hV, hrt]
  simp only [vec1Law, List.length_append, Nat.add_assoc]
end Go.Abs

set_option linter.unusedVariables false
set_option linter.unusedSimpArgs false
set_option maxRecDepth 100000
set_option maxHeartbeats 4000000
namespace Go.Abs
open Go.Proofs Go.Proofs.Try
/-! ### vectors of one, and of three -/
noncomputable def eM2 : Env := eN0 [(89, S18c)]
theorem eM2_ok : EnvOk eM2 := envOf_ok tysN_ok (SumsOk.cons (fn := f89) S18c_ok (by kernel_rfl) (by kernel_rfl) (by kernel_rfl) trivial)
noncomputable def nR71a (a : List Int) (g1 n1 gO : Nat) (c1 : Option Nat) (ow ow1 : Bool) : Res := resG 2 [0, 1, 3] (runF eM2 f71 [] 400 [.slice 1 0 gO 0 1 (some 1)] [some ⟨.agg [.slice 1 1 g1 0 n1 c1], gO, ow, 22⟩, some ⟨.ints .u8 a, g1, ow1, 5⟩] [none, some false, none])
theorem nR71a_ok {a : List Int} {g1 n1 gO : Nat} {c1 : Option Nat} {ow ow1 : Bool} (h : allP [.eqN gO gO, .eqN gO gO, .eqN gO gO, .eqN g1 g1, .p (decide (65536 < (↑n1 : Int)) = false), .eqN g1 g1, .leN (lenLaw (↑n1 : Int)).length 140737488355328, .leN (0 + (lenLaw (↑n1 : Int)).length) (lenLaw (↑n1 : Int)).length, .leN (0 + (lenLaw (↑n1 : Int)).length) ([] ++ List.take (lenLaw (↑n1 : Int)).length
 (lenLaw (↑n1 : Int))).length, .leN (addO (lenLaw (↑n1 : Int)).length n1) 140737488355328, .eqN g1 g1, .leN (0 + n1) a.length]) : OkR (nR71a a g1 n1 gO c1 ow ow1) := OkR.dem (fl := bitsF 20 799788) (by kernel_rfl) (by kernel_rfl) (by kernel_rfl) h
theorem nR71a_val {a : List Int} {g1 n1 gO : Nat} {c1 : Option Nat} {ow ow1 : Bool} : (nR71a a g1 n1 gO c1 ow ow1).val = .tuple [.slice 1 2 1 0 (addO (lenLaw (↑n1 : Int)).length n1) none, .int .i64 0] := by kernel_rfl
theorem nR71a_tab {a : List Int} {g1 n1 gO : Nat} {c1 : Option Nat} {ow ow1 : Bool} : (nR71a a g1 n1 gO c1 ow ow1).tab = [some ⟨.agg [.slice 1 1 g1 0 n1 c1], gO, ow, 22⟩, some ⟨.ints .u8 a, g1, ow1, 5⟩, some ⟨.ints .u8 (List.take (lenLaw (↑n1 : Int)).length ([] ++ List.take (lenLaw (↑n1 : Int)).length (lenLaw (↑n1 : Int))) ++ List.take n1 a), 1, true, 5⟩] := by kernel_rfl
noncomputable def nR71c (a b c : List Int) (g1 g2 g3 n1 n2 n3 gO : Nat) (ow ow1 ow2 ow3 : Bool) : Res := resG 4 [0, 1, 2, 3, 5] (runF eM2 f71 [] 400 [.slice 1 0 gO 0 3 (some 3)] [some ⟨.agg [.slice 1 1 g1 0 n1 none, .slice 1 2 g2 0 n2 none, .slice 1 3 g3 0 n3 none], gO, ow, 22⟩, some ⟨.ints .u8 a, g1, ow1, 5⟩, some ⟨.ints .u8 b, g2, ow2, 5⟩, some ⟨.ints .u8 c, g3, ow3, 5⟩] [none, some false, none, some false, none, some false, none])
theorem nR71c_ok {a b c : List Int} {g1 g2 g3 n1 n2 n3 gO : Nat} {ow ow1 ow2 ow3 : Bool} (h : allP [.eqN gO gO, .eqN gO gO, .eqN gO gO, .eqN g1 g1, .p (decide (65536 < (↑n1 : Int)) = false), .eqN g1 g1, .leN (lenLaw (↑n1 : Int)).length 140737488355328, .leN (0 + (lenLaw (↑n1 : Int)).length) (lenLaw (↑n1 : Int)).length, .leN (0 + (lenLaw (↑n1 : Int)).length) ([] ++ List.take (lenLaw (↑n1 :
 Int)).length (lenLaw (↑n1 : Int))).length, .leN (addO (lenLaw (↑n1 : Int)).length n1) 140737488355328, .eqN g1 g1, .leN (0 + n1) a.length, .eqN gO gO, .eqN gO gO, .eqN g2 g2, .p (decide (65536 < (↑n2 : Int)) = false), .eqN g2 g2, .leN (0 + addO (lenLaw (↑n1 : Int)).length n1) (List.take (lenLaw (↑n1 : Int)).length ([] ++ List.take (lenLaw (↑n1 : Int)).length (lenLaw (↑n1 : Int))) ++ List.take n1
 a).length, .leN (addO (addO (lenLaw (↑n1 : Int)).length n1) (lenLaw (↑n2 : Int)).length) 140737488355328, .leN (0 + (lenLaw (↑n2 : Int)).length) (lenLaw (↑n2 : Int)).length, .leN (0 + addO (addO (lenLaw (↑n1 : Int)).length n1) (lenLaw (↑n2 : Int)).length) (List.take (addO (lenLaw (↑n1 : Int)).length n1) (List.take (lenLaw (↑n1 : Int)).length ([] ++ List.take (lenLaw (↑n1 : Int)).length (lenLaw (↑n1
 : Int))) ++ List.take n1 a) ++ List.take (lenLaw (↑n2 : Int)).length (lenLaw (↑n2 : Int))).length, .leN (addO (addO (addO (lenLaw (↑n1 : Int)).length n1) (lenLaw (↑n2 : Int)).length) n2) 140737488355328, .eqN g2 g2, .leN (0 + n2) b.length, .eqN gO gO, .eqN gO gO, .eqN g3 g3, .p (decide (65536 < (↑n3 : Int)) = false), .eqN g3 g3, .leN (0 + addO (addO (addO (lenLaw (↑n1 : Int)).length n1) (lenLaw
 (↑n2 : Int)).length) n2) (List.take (addO (addO (lenLaw (↑n1 : Int)).length n1) (lenLaw (↑n2 : Int)).length) (List.take (addO (lenLaw (↑n1 : Int)).length n1) (List.take (lenLaw (↑n1 : Int)).length ([] ++ List.take (lenLaw (↑n1 : Int)).length (lenLaw (↑n1 : Int))) ++ List.take n1 a) ++ List.take (lenLaw (↑n2 : Int)).length (lenLaw (↑n2 : Int))) ++ List.take n2 b).length, .leN (addO (addO (addO (addO
 (lenLaw (↑n1 : Int)).length n1) (lenLaw (↑n2 : Int)).length) n2) (lenLaw (↑n3 : Int)).length) 140737488355328, .leN (0 + (lenLaw (↑n3 : Int)).length) (lenLaw (↑n3 : Int)).length, .leN (0 + addO (addO (addO (addO (lenLaw (↑n1 : Int)).length n1) (lenLaw (↑n2 : Int)).length) n2) (lenLaw (↑n3 : Int)).length) (List.take (addO (addO (addO (lenLaw (↑n1 : Int)).length n1) (lenLaw (↑n2 : Int)).length) n2)
 (List.take (addO (addO (lenLaw (↑n1 : Int)).length n1) (lenLaw (↑n2 : Int)).length) (List.take (addO (lenLaw (↑n1 : Int)).length n1) (List.take (lenLaw (↑n1 : Int)).length ([] ++ List.take (lenLaw (↑n1 : Int)).length (lenLaw (↑n1 : Int))) ++ List.take n1 a) ++ List.take (lenLaw (↑n2 : Int)).length (lenLaw (↑n2 : Int))) ++ List.take n2 b) ++ List.take (lenLaw (↑n3 : Int)).length (lenLaw (↑n3 :
 Int))).length, .leN (addO (addO (addO (addO (addO (lenLaw (↑n1 : Int)).length n1) (lenLaw (↑n2 : Int)).length) n2) (lenLaw (↑n3 : Int)).length) n3) 140737488355328, .eqN g3 g3, .leN (0 + n3) c.length]) : OkR (nR71c a b c g1 g2 g3 n1 n2 n3 gO ow ow1 ow2 ow3) := OkR.dem (fl := bitsF 62 3517924314918433836) (by kernel_rfl) (by kernel_rfl) (by kernel_rfl) h
theorem nR71c_val {a b c : List Int} {g1 g2 g3 n1 n2 n3 gO : Nat} {ow ow1 ow2 ow3 : Bool} : (nR71c a b c g1 g2 g3 n1 n2 n3 gO ow ow1 ow2 ow3).val = .tuple [.slice 1 4 5 0 (addO (addO (addO (addO (addO (lenLaw (↑n1 : Int)).length n1) (lenLaw (↑n2 : Int)).length) n2) (lenLaw (↑n3 : Int)).length) n3) none, .int .i64 0] := by kernel_rfl
theorem nR71c_tab {a b c : List Int} {g1 g2 g3 n1 n2 n3 gO : Nat} {ow ow1 ow2 ow3 : Bool} : (nR71c a b c g1 g2 g3 n1 n2 n3 gO ow ow1 ow2 ow3).tab = [some ⟨.agg [.slice 1 1 g1 0 n1 none, .slice 1 2 g2 0 n2 none, .slice 1 3 g3 0 n3 none], gO, ow, 22⟩, some ⟨.ints .u8 a, g1, ow1, 5⟩, some ⟨.ints .u8 b, g2, ow2, 5⟩, some ⟨.ints .u8 c, g3, ow3, 5⟩, some ⟨.ints .u8 (List.take (addO (addO (addO (addO
 (lenLaw (↑n1 : Int)).length n1) (lenLaw (↑n2 : Int)).length) n2) (lenLaw (↑n3 : Int)).length) (List.take (addO (addO (addO (lenLaw (↑n1 : Int)).length n1) (lenLaw (↑n2 : Int)).length) n2) (List.take (addO (addO (lenLaw (↑n1 : Int)).length n1) (lenLaw (↑n2 : Int)).length) (List.take (addO (lenLaw (↑n1 : Int)).length n1) (List.take (lenLaw (↑n1 : Int)).length ([] ++ List.take (lenLaw (↑n1 :
 Int)).length (lenLaw (↑n1 : Int))) ++ List.take n1 a) ++ List.take (lenLaw (↑n2 : Int)).length (lenLaw (↑n2 : Int))) ++ List.take n2 b) ++ List.take (lenLaw (↑n3 : Int)).length (lenLaw (↑n3 : Int))) ++ List.take n3 c), 5, true, 5⟩] := by kernel_rfl
def v1Law (n : Nat) (a : List Int) : List Int := vec1Law (List.take n a)
def jn3Law (a b c : List Int) : List Int := vec1Law a ++ (vec1Law b ++ vec1Law c)
theorem v1_len {n : Nat} {a : List Int} (h : n ≤ a.length) : (v1Law n a).length = (lenLaw (n : Int)).length + n := by
  have hl : (List.take n a).length = n := by rw [List.length_take]; omega
  unfold v1Law vec1Law
  rw [hl, List.length_append, hl]
theorem jn3_len (a b c : List Int) : (jn3Law a b c).length = (lenLaw (a.length : Int)).length + a.length + (lenLaw (b.length : Int)).length + b.length + (lenLaw (c.length : Int)).length + c.length := by
  unfold jn3Law vec1Law
  simp only [List.length_append]
  omega
noncomputable def nsm71ac (args : List AVal) (T : Tab) (a : List Int) (g1 : Nat) (n1 : Nat) (c1 : Option Nat) (gO : Nat) (ow : Bool) (ow1 : Bool) : Res := ⟨[.tab T [some ⟨.agg [.slice 1 1 g1 0 n1 c1], gO, ow, 22⟩, some ⟨.ints .u8 a, g1, ow1, 5⟩], .val (.tuple args) (.tuple [.slice 1 0 gO 0 1 (some 1)]), .leN n1 a.length, .leN n1 65536], .tuple [.slice 1 2 1 0 (v1Law n1 a).length none, .int .i64 0], [some ⟨.agg [.slice 1 1 g1 0 n1 c1], gO, ow, 22⟩, some ⟨.ints .u8 a, g1, ow1, 5⟩, some ⟨.ints .u8 (v1Law n1 a), 1, true, 5⟩]⟩
theorem nsm71ac_ok {args : List AVal} {T : Tab} {a : List Int} {g1 : Nat} {n1 : Nat} {c1 : Option Nat} {gO : Nat} {ow : Bool} {ow1 : Bool} (h : allP (nsm71ac args T a g1 n1 c1 gO ow ow1).cs) : Small prog (fun _ => none) 71 args T (nsm71ac args T a g1 n1 c1 gO ow ow1).val (nsm71ac args T a g1 n1 c1 gO ow ow1).tab := by
  obtain ⟨hT, hv, h1, h2, _⟩ := h
  simp only [Con.h] at hT hv h1 h2
  injection hv with hv
  subst hT hv
  show Small prog (fun _ => none) 71 [.slice 1 0 gO 0 1 (some 1)] [some ⟨.agg [.slice 1 1 g1 0 n1 c1], gO, ow, 22⟩, some ⟨.ints .u8 a, g1, ow1, 5⟩] (.tuple [.slice 1 2 1 0 (v1Law n1 a).length none, .int .i64 0]) [some ⟨.agg [.slice 1 1 g1 0 n1 c1], gO, ow, 22⟩, some ⟨.ints .u8 a, g1, ow1, 5⟩, some ⟨.ints .u8 (v1Law n1 a), 1, true, 5⟩]
  have hl : (List.take n1 a).length = n1 := by rw [List.length_take]; omega
  have hL := lenLaw_len (n1 : Int)
  refine small_ofG (R := nR71a a g1 n1 gO c1 ow ow1) eM2_ok hmN (f := 71) (fn := f71) (by kernel_rfl) (by kernel_rfl) FnOrc.nil rfl (nR71a_ok ?_) ?_ ?_
  · simp (disch := (simp only [List.length_append, List.length_take, addO_eq, List.length_nil]; omega)) only [allP, Con.h, List.take_of_length_le, addO_eq, List.nil_append, Nat.zero_add, List.length_append, List.length_take, Nat.min_self, eq_self, true_and, and_true, decide_eq_true_eq, decide_eq_false_iff_not]
    omega
  · rw [nR71a_val, v1_len h1, addO_eq]
  · rw [nR71a_tab]
    unfold v1Law vec1Law
    rw [hl]
    simp (disch := (simp only [List.length_append, List.length_take, addO_eq, List.length_nil]; omega)) only [List.take_length, List.take_of_length_le, addO_eq, List.nil_append]
noncomputable def nsm71a : Summary := fun args T => nsm71ac args T (xsAt T 1) (gAt T 1) (lenOf ((dAt T 0).get 0)) (capOf ((dAt T 0).get 0)) (gAt T 0) (owAt T 0) (owAt T 1)
theorem nsm71a_ok : SmOk prog (fun _ => none) 71 nsm71a := fun args T h => nsm71ac_ok h
noncomputable def nsm71cc (args : List AVal) (T : Tab) (a : List Int) (b : List Int) (c : List Int) (g1 : Nat) (g2 : Nat) (g3 : Nat) (n1 : Nat) (n2 : Nat) (n3 : Nat) (gO : Nat) (ow : Bool) (ow1 : Bool) (ow2 : Bool) (ow3 : Bool) : Res := ⟨[.tab T [some ⟨.agg [.slice 1 1 g1 0 n1 none, .slice 1 2 g2 0 n2 none, .slice 1 3 g3 0 n3 none], gO, ow, 22⟩, some ⟨.ints .u8 a, g1, ow1, 5⟩, some ⟨.ints .u8 b, g2, ow2, 5⟩, some ⟨.ints .u8 c, g3, ow3, 5⟩], .val (.tuple args) (.tuple [.slice 1 0 gO 0 3 (some 3)]), .eqN n1 a.length, .eqN n2 b.length, .eqN n3 c.length, .leN n1 65536, .leN n2 65536, .leN n3 65536], .tuple [.slice 1 4 5 0 (jn3Law a b c).length none, .int .i64 0], [some ⟨.agg [.slice 1 1 g1 0 n1 none, .slice 1 2 g2 0 n2 none, .slice 1 3 g3 0 n3 none], gO, ow, 22⟩, some ⟨.ints .u8 a, g1, ow1, 5⟩, some ⟨.ints .u8 b, g2, ow2, 5⟩, some ⟨.ints .u8 c, g3, ow3, 5⟩, some ⟨.ints .u8 (jn3Law a b c), 5, true, 5⟩]⟩
theorem nsm71cc_ok {args : List AVal} {T : Tab} {a : List Int} {b : List Int} {c : List Int} {g1 : Nat} {g2 : Nat} {g3 : Nat} {n1 : Nat} {n2 : Nat} {n3 : Nat} {gO : Nat} {ow : Bool} {ow1 : Bool} {ow2 : Bool} {ow3 : Bool} (h : allP (nsm71cc args T a b c g1 g2 g3 n1 n2 n3 gO ow ow1 ow2 ow3).cs) : Small prog (fun _ => none) 71 args T (nsm71cc args T a b c g1 g2 g3 n1 n2 n3 gO ow ow1 ow2 ow3).val (nsm71cc args T a b c g1 g2 g3 n1 n2 n3 gO ow ow1 ow2 ow3).tab := by
  obtain ⟨hT, hv, h1, h2, h3, h4, h5, h6, _⟩ := h
  simp only [Con.h] at hT hv h1 h2 h3 h4 h5 h6
  injection hv with hv
  subst hT hv
  show Small prog (fun _ => none) 71 [.slice 1 0 gO 0 3 (some 3)] [some ⟨.agg [.slice 1 1 g1 0 n1 none, .slice 1 2 g2 0 n2 none, .slice 1 3 g3 0 n3 none], gO, ow, 22⟩, some ⟨.ints .u8 a, g1, ow1, 5⟩, some ⟨.ints .u8 b, g2, ow2, 5⟩, some ⟨.ints .u8 c, g3, ow3, 5⟩] (.tuple [.slice 1 4 5 0 (jn3Law a b c).length none, .int .i64 0]) [some ⟨.agg [.slice 1 1 g1 0 n1 none, .slice 1 2 g2 0 n2 none, .slice 1 3 g3 0 n3 none], gO, ow, 22⟩, some ⟨.ints .u8 a, g1, ow1, 5⟩, some ⟨.ints .u8 b, g2, ow2, 5⟩, some ⟨.ints .u8 c, g3, ow3, 5⟩, some ⟨.ints .u8 (jn3Law a b c), 5, true, 5⟩]
  subst h1 h2 h3
  have hA := lenLaw_len (a.length : Int)
  have hB := lenLaw_len (b.length : Int)
  have hC := lenLaw_len (c.length : Int)
  refine small_ofG (R := nR71c a b c g1 g2 g3 a.length b.length c.length gO ow ow1 ow2 ow3) eM2_ok hmN (f := 71) (fn := f71) (by kernel_rfl) (by kernel_rfl) FnOrc.nil rfl (nR71c_ok ?_) ?_ ?_
  · simp (disch := (simp only [List.length_append, List.length_take, addO_eq, List.length_nil]; omega)) only [allP, Con.h, List.take_of_length_le, addO_eq, List.nil_append, Nat.zero_add, List.length_append, List.length_take, Nat.min_self, eq_self, true_and, and_true, decide_eq_true_eq, decide_eq_false_iff_not]
    omega
  · rw [nR71c_val, jn3_len]
    simp only [addO_eq, Nat.add_assoc]
  · rw [nR71c_tab]
    unfold jn3Law vec1Law
    simp (disch := (simp only [List.length_append, List.length_take, addO_eq, List.length_nil]; omega)) only [List.take_length, List.take_of_length_le, addO_eq, List.nil_append]
    simp only [List.append_assoc]
noncomputable def nsm71c : Summary := fun args T => nsm71cc args T (xsAt T 1) (xsAt T 2) (xsAt T 3) (gAt T 1) (gAt T 2) (gAt T 3) (lenOf ((dAt T 0).get 0)) (lenOf ((dAt T 0).get 1)) (lenOf ((dAt T 0).get 2)) (gAt T 0) (owAt T 0) (owAt T 1) (owAt T 2) (owAt T 3)
theorem nsm71c_ok : SmOk prog (fun _ => none) 71 nsm71c := fun args T h => nsm71cc_ok h
noncomputable def nS71 : Summary := fun args T => match lenOf (vAt args 0) with
  | 1 => callR nsm71a [] args T
  | 3 => callR nsm71c [] args T
  | _ => fail
theorem nS71_ok : SumOk prog (fun _ => none) 71 nS71 := by
  intro args T hc
  unfold nS71 at hc ⊢
  split at hc
  · exact callR_ok nsm71a_ok [] args T hc
  · exact callR_ok nsm71c_ok [] args T hc
  · exact absurd hc nofail
end Go.Abs

set_option linter.unusedVariables false
set_option linter.unusedSimpArgs false
set_option maxRecDepth 100000
set_option maxHeartbeats 4000000
namespace Go.Abs
open Go.Proofs Go.Proofs.Try
/-! ### a writer -/
theorem num_len (n size : Int) : (numLaw n size).length ≤ 8 := by
  unfold numLaw
  split
  · rename_i h
    rcases h.1 with rfl | rfl | rfl | rfl <;> simp [beLaw]
  · simp
noncomputable def eM3 : Env := eN0 [(71, nS71)]
theorem eM3_ok : EnvOk eM3 := envOf_ok tysN_ok (SumsOk.cons (fn := f71) nS71_ok (by kernel_rfl) (by kernel_rfl) (by kernel_rfl) trivial)
noncomputable def eM4 : Env := eN0 [(73, S16)]
theorem eM4_ok : EnvOk eM4 := envOf_ok tysN_ok (SumsOk.cons (fn := f73) S16_ok (by kernel_rfl) (by kernel_rfl) (by kernel_rfl) trivial)
noncomputable def nR38  : Res := runF (eN0 []) f38 [] 400 [] [] []
theorem nR38_ok  (h : allP []) : OkR (nR38 ) := OkR.dem (fl := bitsF 22 4194303) (by kernel_rfl) (by kernel_rfl) (by kernel_rfl) h
theorem nR38_val  : (nR38 ).val = .var 0 0 := by kernel_rfl
theorem nR38_tab  : (nR38 ).tab = [some ⟨.agg [.nilSlice, .func (Fn.func 70) [] [.var 1 0], .func (Fn.func 72) [] [.var 1 0]], 0, true, 81⟩, some ⟨.agg [.var 0 0], 0, true, 75⟩] := by kernel_rfl
noncomputable def nR70a (a : List Int) (g1 : Nat) (n1 : Nat) (c1 : Option Nat) (gO : Nat) (ow : Bool) (ow1 : Bool) (X : List Int) (gC : Nat) (gW : Nat) (gB : Nat) (m : Nat) (owC : Bool) : Res := resG 5 [0, 1, 2, 3, 4] (runF eM3 f70 [] 400 [.slice 1 0 gO 0 1 (some 1), .var 1 gC] [some ⟨.agg [.slice 1 2 g1 0 n1 c1], gO, ow, 22⟩, some ⟨.agg [.var 3 gW], gC, owC, 75⟩, some ⟨.ints .u8 a, g1, ow1, 5⟩, some ⟨.agg [.slice 1 4 gB 0 m none, .func (.func 70) [] [.var 1 gC], .func (.func 72) [] [.var 1 gC]], gW, true, 81⟩, some ⟨.ints .u8 X, gB, true, 5⟩] [])
theorem nR70a_ok {a : List Int} {g1 : Nat} {n1 : Nat} {c1 : Option Nat} {gO : Nat} {ow : Bool} {ow1 : Bool} {X : List Int} {gC : Nat} {gW : Nat} {gB : Nat} {m : Nat} {owC : Bool} (h : allP [.eqN gO gO, .eqN g1 g1, .leN n1 a.length, .leN n1 65536, .eqN gC gC, .eqN gC gC, .eqN gC gC, .eqN gW gW, .eqN gW gW, .eqN gW gW, .eqN gB gB, .leN (0 + m) X.length, .leN (addO m (v1Law n1 a).length)
 140737488355328, .leN (0 + (v1Law n1 a).length) (v1Law n1 a).length, .eqN gW gW, .eqN gW gW, .eqN gW gW]) : OkR (nR70a a g1 n1 c1 gO ow ow1 X gC gW gB m owC) := OkR.dem (fl := bitsF 32 1889674496) (by kernel_rfl) (by kernel_rfl) (by kernel_rfl) h
theorem nR70a_val {a : List Int} {g1 : Nat} {n1 : Nat} {c1 : Option Nat} {gO : Nat} {ow : Bool} {ow1 : Bool} {X : List Int} {gC : Nat} {gW : Nat} {gB : Nat} {m : Nat} {owC : Bool} : (nR70a a g1 n1 c1 gO ow ow1 X gC gW gB m owC).val = .tuple [] := by kernel_rfl
theorem nR70a_tab {a : List Int} {g1 : Nat} {n1 : Nat} {c1 : Option Nat} {gO : Nat} {ow : Bool} {ow1 : Bool} {X : List Int} {gC : Nat} {gW : Nat} {gB : Nat} {m : Nat} {owC : Bool} : (nR70a a g1 n1 c1 gO ow ow1 X gC gW gB m owC).tab = [some ⟨.agg [.slice 1 2 g1 0 n1 c1], gO, ow, 22⟩, some ⟨.agg [.var 3 gW], gC, owC, 75⟩, some ⟨.ints .u8 a, g1, ow1, 5⟩, some ⟨.agg [.slice 1 4 (gB + 1) 0 (addO m
 (v1Law n1 a).length) none, .func (Fn.func 70) [] [.var 1 gC], .func (Fn.func 72) [] [.var 1 gC]], gW, true, 81⟩, some ⟨.ints .u8 (List.take m X ++ List.take (v1Law n1 a).length (v1Law n1 a)), gB + 1, true, 5⟩] := by kernel_rfl
noncomputable def nR70c (a : List Int) (b : List Int) (c : List Int) (g1 : Nat) (g2 : Nat) (g3 : Nat) (n1 : Nat) (n2 : Nat) (n3 : Nat) (gO : Nat) (ow : Bool) (ow1 : Bool) (ow2 : Bool) (ow3 : Bool) (X : List Int) (gC : Nat) (gW : Nat) (gB : Nat) (m : Nat) (owC : Bool) : Res := resG 7 [0, 1, 2, 3, 4, 5, 6] (runF eM3 f70 [] 400 [.slice 1 0 gO 0 3 (some 3), .var 1 gC] [some ⟨.agg [.slice 1 2 g1 0 n1 none, .slice 1 3 g2 0 n2 none, .slice 1 4 g3 0 n3 none], gO, ow, 22⟩, some ⟨.agg [.var 5 gW], gC, owC, 75⟩, some ⟨.ints .u8 a, g1, ow1, 5⟩, some ⟨.ints .u8 b, g2, ow2, 5⟩, some ⟨.ints .u8 c, g3, ow3, 5⟩, some ⟨.agg [.slice 1 6 gB 0 m none, .func (.func 70) [] [.var 1 gC], .func (.func 72) [] [.var 1 gC]], gW, true, 81⟩, some ⟨.ints .u8 X, gB, true, 5⟩] [])
theorem nR70c_ok {a : List Int} {b : List Int} {c : List Int} {g1 : Nat} {g2 : Nat} {g3 : Nat} {n1 : Nat} {n2 : Nat} {n3 : Nat} {gO : Nat} {ow : Bool} {ow1 : Bool} {ow2 : Bool} {ow3 : Bool} {X : List Int} {gC : Nat} {gW : Nat} {gB : Nat} {m : Nat} {owC : Bool} (h : allP [.eqN gO gO, .eqN g1 g1, .eqN g2 g2, .eqN g3 g3, .eqN n1 a.length, .eqN n2 b.length, .eqN n3 c.length, .leN n1 65536, .leN n2
 65536, .leN n3 65536, .eqN gC gC, .eqN gC gC, .eqN gC gC, .eqN gW gW, .eqN gW gW, .eqN gW gW, .eqN gB gB, .leN (0 + m) X.length, .leN (addO m (jn3Law a b c).length) 140737488355328, .leN (0 + (jn3Law a b c).length) (jn3Law a b c).length, .eqN gW gW, .eqN gW gW, .eqN gW gW]) : OkR (nR70c a b c g1 g2 g3 n1 n2 n3 gO ow ow1 ow2 ow3 X gC gW gB m owC) := OkR.dem (fl := bitsF 38 120939167744) (by
 kernel_rfl) (by kernel_rfl) (by kernel_rfl) h
theorem nR70c_val {a : List Int} {b : List Int} {c : List Int} {g1 : Nat} {g2 : Nat} {g3 : Nat} {n1 : Nat} {n2 : Nat} {n3 : Nat} {gO : Nat} {ow : Bool} {ow1 : Bool} {ow2 : Bool} {ow3 : Bool} {X : List Int} {gC : Nat} {gW : Nat} {gB : Nat} {m : Nat} {owC : Bool} : (nR70c a b c g1 g2 g3 n1 n2 n3 gO ow ow1 ow2 ow3 X gC gW gB m owC).val = .tuple [] := by kernel_rfl
theorem nR70c_tab {a : List Int} {b : List Int} {c : List Int} {g1 : Nat} {g2 : Nat} {g3 : Nat} {n1 : Nat} {n2 : Nat} {n3 : Nat} {gO : Nat} {ow : Bool} {ow1 : Bool} {ow2 : Bool} {ow3 : Bool} {X : List Int} {gC : Nat} {gW : Nat} {gB : Nat} {m : Nat} {owC : Bool} : (nR70c a b c g1 g2 g3 n1 n2 n3 gO ow ow1 ow2 ow3 X gC gW gB m owC).tab = [some ⟨.agg [.slice 1 2 g1 0 n1 none, .slice 1 3 g2 0 n2 none,
 .slice 1 4 g3 0 n3 none], gO, ow, 22⟩, some ⟨.agg [.var 5 gW], gC, owC, 75⟩, some ⟨.ints .u8 a, g1, ow1, 5⟩, some ⟨.ints .u8 b, g2, ow2, 5⟩, some ⟨.ints .u8 c, g3, ow3, 5⟩, some ⟨.agg [.slice 1 6 (gB + 1) 0 (addO m (jn3Law a b c).length) none, .func (Fn.func 70) [] [.var 1 gC], .func (Fn.func 72) [] [.var 1 gC]], gW, true, 81⟩, some ⟨.ints .u8 (List.take m X ++ List.take (jn3Law a b c).length
 (jn3Law a b c)), gB + 1, true, 5⟩] := by kernel_rfl
noncomputable def nR72 (n : Int) (size : Int) (X : List Int) (gC : Nat) (gW : Nat) (gB : Nat) (m : Nat) (owC : Bool) : Res := resG 3 [0, 1, 2] (runF eM4 f72 [] 400 [.int .i64 n, .int .i64 size, .var 0 gC] [some ⟨.agg [.var 1 gW], gC, owC, 75⟩, some ⟨.agg [.slice 1 2 gB 0 m none, .func (.func 70) [] [.var 0 gC], .func (.func 72) [] [.var 0 gC]], gW, true, 81⟩, some ⟨.ints .u8 X, gB, true, 5⟩] [])
theorem nR72_ok {n : Int} {size : Int} {X : List Int} {gC : Nat} {gW : Nat} {gB : Nat} {m : Nat} {owC : Bool} (h : allP [.eqN gC gC, .eqN gC gC, .eqN gC gC, .eqN gW gW, .eqN gW gW, .eqN gW gW, .eqN gB gB, .leN (0 + m) X.length, .leN (addO m (numLaw n size).length) 140737488355328, .leN (0 + (numLaw n size).length) (numLaw n size).length, .eqN gW gW, .eqN gW gW, .eqN gW gW]) : OkR (nR72 n size X gC
 gW gB m owC) := OkR.dem (fl := bitsF 26 29526164) (by kernel_rfl) (by kernel_rfl) (by kernel_rfl) h
theorem nR72_val {n : Int} {size : Int} {X : List Int} {gC : Nat} {gW : Nat} {gB : Nat} {m : Nat} {owC : Bool} : (nR72 n size X gC gW gB m owC).val = .tuple [] := by kernel_rfl
theorem nR72_tab {n : Int} {size : Int} {X : List Int} {gC : Nat} {gW : Nat} {gB : Nat} {m : Nat} {owC : Bool} : (nR72 n size X gC gW gB m owC).tab = [some ⟨.agg [.var 1 gW], gC, owC, 75⟩, some ⟨.agg [.slice 1 2 (gB + 1) 0 (addO m (numLaw n size).length) none, .func (Fn.func 70) [] [.var 0 gC], .func (Fn.func 72) [] [.var 0 gC]], gW, true, 81⟩, some ⟨.ints .u8 (List.take m X ++ List.take (numLaw n
 size).length (numLaw n size)), gB + 1, true, 5⟩] := by kernel_rfl
theorem small38 : Small prog (fun _ => none) 38 [] [] (.var 0 0) [some ⟨.agg [.slice 1 2 0 0 0 none, .func (.func 70) [] [.var 1 0], .func (.func 72) [] [.var 1 0]], 0, true, 81⟩, some ⟨.agg [.var 0 0], 0, true, 75⟩, some ⟨.ints .u8 [], 0, true, 5⟩] :=
  Small.conv (ids := [0]) (small_of (R := nR38) eN0_ok hmN (f := 38) (fn := f38) (by kernel_rfl) (by kernel_rfl) FnOrc.nil rfl (nR38_ok trivial) nR38_val nR38_tab) (Conv.nilCell (kk := .u8) (et2 := 5) (sz := 1) (p := 0) (j := 0) rfl rfl rfl) (by intro p hp; simp at hp; subst hp; rfl)
noncomputable def nsm38c (args : List AVal) (T : Tab)  : Res := ⟨[.tab T [], .val (.tuple args) (.tuple [])], .var 0 0, [some ⟨.agg [.slice 1 2 0 0 0 none, .func (.func 70) [] [.var 1 0], .func (.func 72) [] [.var 1 0]], 0, true, 81⟩, some ⟨.agg [.var 0 0], 0, true, 75⟩, some ⟨.ints .u8 [], 0, true, 5⟩]⟩
theorem nsm38c_ok {args : List AVal} {T : Tab}  (h : allP (nsm38c args T ).cs) : Small prog (fun _ => none) 38 args T (nsm38c args T ).val (nsm38c args T ).tab := by
  obtain ⟨hT, hv, _⟩ := h
  simp only [Con.h] at hT hv
  injection hv with hv
  subst hT hv
  show Small prog (fun _ => none) 38 [] [] (.var 0 0) [some ⟨.agg [.slice 1 2 0 0 0 none, .func (.func 70) [] [.var 1 0], .func (.func 72) [] [.var 1 0]], 0, true, 81⟩, some ⟨.agg [.var 0 0], 0, true, 75⟩, some ⟨.ints .u8 [], 0, true, 5⟩]
  exact small38
noncomputable def nsm38 : Summary := fun args T => nsm38c args T 
theorem nsm38_ok : SmOk prog (fun _ => none) 38 nsm38 := fun args T h => nsm38c_ok h
noncomputable def nS38 : Summary := callR nsm38 []
theorem nS38_ok : SumOk prog (fun _ => none) 38 nS38 := callR_ok nsm38_ok []
noncomputable def nsm70ac (args : List AVal) (T : Tab) (a : List Int) (g1 : Nat) (n1 : Nat) (c1 : Option Nat) (gO : Nat) (ow : Bool) (ow1 : Bool) (X : List Int) (gC : Nat) (gW : Nat) (gB : Nat) (m : Nat) (owC : Bool) : Res := ⟨[.tab T [some ⟨.agg [.slice 1 2 g1 0 n1 c1], gO, ow, 22⟩, some ⟨.agg [.var 3 gW], gC, owC, 75⟩, some ⟨.ints .u8 a, g1, ow1, 5⟩, some ⟨.agg [.slice 1 4 gB 0 m none, .func (.func 70) [] [.var 1 gC], .func (.func 72) [] [.var 1 gC]], gW, true, 81⟩, some ⟨.ints .u8 X, gB, true, 5⟩], .val (.tuple args) (.tuple [.slice 1 0 gO 0 1 (some 1), .var 1 gC]), .leN n1 a.length, .leN n1 65536, .eqN m X.length, .leN m 140737488000000], .tuple [], [some ⟨.agg [.slice 1 2 g1 0 n1 c1], gO, ow, 22⟩, some ⟨.agg [.var 3 gW], gC, owC, 75⟩, some ⟨.ints .u8 a, g1, ow1, 5⟩, some ⟨.agg [.slice 1 4 (gB + 1) 0 (X ++ v1Law n1 a).length none, .func (.func 70) [] [.var 1 gC], .func (.func 72) [] [.var 1 gC]], gW, true, 81⟩, some ⟨.ints .u8 (X ++ v1Law n1 a), (gB + 1), true, 5⟩]⟩
theorem nsm70ac_ok {args : List AVal} {T : Tab} {a : List Int} {g1 : Nat} {n1 : Nat} {c1 : Option Nat} {gO : Nat} {ow : Bool} {ow1 : Bool} {X : List Int} {gC : Nat} {gW : Nat} {gB : Nat} {m : Nat} {owC : Bool} (h : allP (nsm70ac args T a g1 n1 c1 gO ow ow1 X gC gW gB m owC).cs) : Small prog (fun _ => none) 70 args T (nsm70ac args T a g1 n1 c1 gO ow ow1 X gC gW gB m owC).val (nsm70ac args T a g1 n1 c1 gO ow ow1 X gC gW gB m owC).tab := by
  obtain ⟨hT, hv, h1, h2, h3, h4, _⟩ := h
  simp only [Con.h] at hT hv h1 h2 h3 h4
  injection hv with hv
  subst hT hv
  show Small prog (fun _ => none) 70 [.slice 1 0 gO 0 1 (some 1), .var 1 gC] [some ⟨.agg [.slice 1 2 g1 0 n1 c1], gO, ow, 22⟩, some ⟨.agg [.var 3 gW], gC, owC, 75⟩, some ⟨.ints .u8 a, g1, ow1, 5⟩, some ⟨.agg [.slice 1 4 gB 0 m none, .func (.func 70) [] [.var 1 gC], .func (.func 72) [] [.var 1 gC]], gW, true, 81⟩, some ⟨.ints .u8 X, gB, true, 5⟩] (.tuple []) [some ⟨.agg [.slice 1 2 g1 0 n1 c1], gO, ow, 22⟩, some ⟨.agg [.var 3 gW], gC, owC, 75⟩, some ⟨.ints .u8 a, g1, ow1, 5⟩, some ⟨.agg [.slice 1 4 (gB + 1) 0 (X ++ v1Law n1 a).length none, .func (.func 70) [] [.var 1 gC], .func (.func 72) [] [.var 1 gC]], gW, true, 81⟩, some ⟨.ints .u8 (X ++ v1Law n1 a), (gB + 1), true, 5⟩]
  have hL := lenLaw_len (n1 : Int)
  have hv := v1_len h1
  subst h3
  refine small_ofG (R := nR70a a g1 n1 c1 gO ow ow1 X gC gW gB X.length owC) eM3_ok hmN (f := 70) (fn := f70) (by kernel_rfl) (by kernel_rfl) FnOrc.nil rfl (nR70a_ok ?_) nR70a_val ?_
  · simp (disch := (simp only [List.length_append, List.length_take, addO_eq, List.length_nil]; omega)) only [allP, Con.h, List.take_length, List.take_of_length_le, addO_eq, List.nil_append, Nat.zero_add, List.length_append, List.length_take, Nat.min_self, eq_self, true_and, and_true, decide_eq_true_eq, decide_eq_false_iff_not]
    omega
  · rw [nR70a_tab, List.length_append]
    simp (disch := (simp only [List.length_append, List.length_take, addO_eq, List.length_nil]; omega)) only [List.take_length, List.take_of_length_le, addO_eq, List.nil_append]
noncomputable def nsm70a : Summary := fun args T => nsm70ac args T (xsAt T 2) (gAt T 2) (lenOf ((dAt T 0).get 0)) (capOf ((dAt T 0).get 0)) (gAt T 0) (owAt T 0) (owAt T 2) (xsAt T 4) (gAt T 1) (gAt T 3) (gAt T 4) (lenOf (cAt T 3 0)) (owAt T 1)
theorem nsm70a_ok : SmOk prog (fun _ => none) 70 nsm70a := fun args T h => nsm70ac_ok h
noncomputable def nsm70cc (args : List AVal) (T : Tab) (a : List Int) (b : List Int) (c : List Int) (g1 : Nat) (g2 : Nat) (g3 : Nat) (n1 : Nat) (n2 : Nat) (n3 : Nat) (gO : Nat) (ow : Bool) (ow1 : Bool) (ow2 : Bool) (ow3 : Bool) (X : List Int) (gC : Nat) (gW : Nat) (gB : Nat) (m : Nat) (owC : Bool) : Res := ⟨[.tab T [some ⟨.agg [.slice 1 2 g1 0 n1 none, .slice 1 3 g2 0 n2 none, .slice 1 4 g3 0 n3 none], gO, ow, 22⟩, some ⟨.agg [.var 5 gW], gC, owC, 75⟩, some ⟨.ints .u8 a, g1, ow1, 5⟩, some ⟨.ints .u8 b, g2, ow2, 5⟩, some ⟨.ints .u8 c, g3, ow3, 5⟩, some ⟨.agg [.slice 1 6 gB 0 m none, .func (.func 70) [] [.var 1 gC], .func (.func 72) [] [.var 1 gC]], gW, true, 81⟩, some ⟨.ints .u8 X, gB, true, 5⟩], .val (.tuple args) (.tuple [.slice 1 0 gO 0 3 (some 3), .var 1 gC]), .eqN n1 a.length, .eqN n2 b.length, .eqN n3 c.length, .leN n1 65536, .leN n2 65536, .leN n3 65536, .eqN m X.length, .leN m 140737488000000], .tuple [], [some ⟨.agg [.slice 1 2 g1 0 n1 none, .slice 1 3 g2 0 n2 none, .slice 1 4 g3 0 n3 none], gO, ow, 22⟩, some ⟨.agg [.var 5 gW], gC, owC, 75⟩, some ⟨.ints .u8 a, g1, ow1, 5⟩, some ⟨.ints .u8 b, g2, ow2, 5⟩, some ⟨.ints .u8 c, g3, ow3, 5⟩, some ⟨.agg [.slice 1 6 (gB + 1) 0 (X ++ jn3Law a b c).length none, .func (.func 70) [] [.var 1 gC], .func (.func 72) [] [.var 1 gC]], gW, true, 81⟩, some ⟨.ints .u8 (X ++ jn3Law a b c), (gB + 1), true, 5⟩]⟩
theorem nsm70cc_ok {args : List AVal} {T : Tab} {a : List Int} {b : List Int} {c : List Int} {g1 : Nat} {g2 : Nat} {g3 : Nat} {n1 : Nat} {n2 : Nat} {n3 : Nat} {gO : Nat} {ow : Bool} {ow1 : Bool} {ow2 : Bool} {ow3 : Bool} {X : List Int} {gC : Nat} {gW : Nat} {gB : Nat} {m : Nat} {owC : Bool} (h : allP (nsm70cc args T a b c g1 g2 g3 n1 n2 n3 gO ow ow1 ow2 ow3 X gC gW gB m owC).cs) : Small prog (fun _ => none) 70 args T (nsm70cc args T a b c g1 g2 g3 n1 n2 n3 gO ow ow1 ow2 ow3 X gC gW gB m owC).val (nsm70cc args T a b c g1 g2 g3 n1 n2 n3 gO ow ow1 ow2 ow3 X gC gW gB m owC).tab := by
  obtain ⟨hT, hv, h1, h2, h3, h4, h5, h6, h7, h8, _⟩ := h
  simp only [Con.h] at hT hv h1 h2 h3 h4 h5 h6 h7 h8
  injection hv with hv
  subst hT hv
  show Small prog (fun _ => none) 70 [.slice 1 0 gO 0 3 (some 3), .var 1 gC] [some ⟨.agg [.slice 1 2 g1 0 n1 none, .slice 1 3 g2 0 n2 none, .slice 1 4 g3 0 n3 none], gO, ow, 22⟩, some ⟨.agg [.var 5 gW], gC, owC, 75⟩, some ⟨.ints .u8 a, g1, ow1, 5⟩, some ⟨.ints .u8 b, g2, ow2, 5⟩, some ⟨.ints .u8 c, g3, ow3, 5⟩, some ⟨.agg [.slice 1 6 gB 0 m none, .func (.func 70) [] [.var 1 gC], .func (.func 72) [] [.var 1 gC]], gW, true, 81⟩, some ⟨.ints .u8 X, gB, true, 5⟩] (.tuple []) [some ⟨.agg [.slice 1 2 g1 0 n1 none, .slice 1 3 g2 0 n2 none, .slice 1 4 g3 0 n3 none], gO, ow, 22⟩, some ⟨.agg [.var 5 gW], gC, owC, 75⟩, some ⟨.ints .u8 a, g1, ow1, 5⟩, some ⟨.ints .u8 b, g2, ow2, 5⟩, some ⟨.ints .u8 c, g3, ow3, 5⟩, some ⟨.agg [.slice 1 6 (gB + 1) 0 (X ++ jn3Law a b c).length none, .func (.func 70) [] [.var 1 gC], .func (.func 72) [] [.var 1 gC]], gW, true, 81⟩, some ⟨.ints .u8 (X ++ jn3Law a b c), (gB + 1), true, 5⟩]
  subst h1 h2 h3 h7
  have hA := lenLaw_len (a.length : Int)
  have hB := lenLaw_len (b.length : Int)
  have hC := lenLaw_len (c.length : Int)
  have hj := jn3_len a b c
  refine small_ofG (R := nR70c a b c g1 g2 g3 a.length b.length c.length gO ow ow1 ow2 ow3 X gC gW gB X.length owC) eM3_ok hmN (f := 70) (fn := f70) (by kernel_rfl) (by kernel_rfl) FnOrc.nil rfl (nR70c_ok ?_) nR70c_val ?_
  · simp (disch := (simp only [List.length_append, List.length_take, addO_eq, List.length_nil]; omega)) only [allP, Con.h, List.take_length, List.take_of_length_le, addO_eq, List.nil_append, Nat.zero_add, List.length_append, List.length_take, Nat.min_self, eq_self, true_and, and_true, decide_eq_true_eq, decide_eq_false_iff_not]
    omega
  · rw [nR70c_tab, List.length_append]
    simp (disch := (simp only [List.length_append, List.length_take, addO_eq, List.length_nil]; omega)) only [List.take_length, List.take_of_length_le, addO_eq, List.nil_append]
noncomputable def nsm70c : Summary := fun args T => nsm70cc args T (xsAt T 2) (xsAt T 3) (xsAt T 4) (gAt T 2) (gAt T 3) (gAt T 4) (lenOf ((dAt T 0).get 0)) (lenOf ((dAt T 0).get 1)) (lenOf ((dAt T 0).get 2)) (gAt T 0) (owAt T 0) (owAt T 2) (owAt T 3) (owAt T 4) (xsAt T 6) (gAt T 1) (gAt T 5) (gAt T 6) (lenOf (cAt T 5 0)) (owAt T 1)
theorem nsm70c_ok : SmOk prog (fun _ => none) 70 nsm70c := fun args T h => nsm70cc_ok h
noncomputable def nsm72c (args : List AVal) (T : Tab) (n : Int) (size : Int) (X : List Int) (gC : Nat) (gW : Nat) (gB : Nat) (m : Nat) (owC : Bool) : Res := ⟨[.tab T [some ⟨.agg [.var 1 gW], gC, owC, 75⟩, some ⟨.agg [.slice 1 2 gB 0 m none, .func (.func 70) [] [.var 0 gC], .func (.func 72) [] [.var 0 gC]], gW, true, 81⟩, some ⟨.ints .u8 X, gB, true, 5⟩], .val (.tuple args) (.tuple [.int .i64 n, .int .i64 size, .var 0 gC]), .eqN m X.length, .leN m 140737488000000], .tuple [], [some ⟨.agg [.var 1 gW], gC, owC, 75⟩, some ⟨.agg [.slice 1 2 (gB + 1) 0 (X ++ numLaw n size).length none, .func (.func 70) [] [.var 0 gC], .func (.func 72) [] [.var 0 gC]], gW, true, 81⟩, some ⟨.ints .u8 (X ++ numLaw n size), (gB + 1), true, 5⟩]⟩
theorem nsm72c_ok {args : List AVal} {T : Tab} {n : Int} {size : Int} {X : List Int} {gC : Nat} {gW : Nat} {gB : Nat} {m : Nat} {owC : Bool} (h : allP (nsm72c args T n size X gC gW gB m owC).cs) : Small prog (fun _ => none) 72 args T (nsm72c args T n size X gC gW gB m owC).val (nsm72c args T n size X gC gW gB m owC).tab := by
  obtain ⟨hT, hv, h1, h2, _⟩ := h
  simp only [Con.h] at hT hv h1 h2
  injection hv with hv
  subst hT hv
  show Small prog (fun _ => none) 72 [.int .i64 n, .int .i64 size, .var 0 gC] [some ⟨.agg [.var 1 gW], gC, owC, 75⟩, some ⟨.agg [.slice 1 2 gB 0 m none, .func (.func 70) [] [.var 0 gC], .func (.func 72) [] [.var 0 gC]], gW, true, 81⟩, some ⟨.ints .u8 X, gB, true, 5⟩] (.tuple []) [some ⟨.agg [.var 1 gW], gC, owC, 75⟩, some ⟨.agg [.slice 1 2 (gB + 1) 0 (X ++ numLaw n size).length none, .func (.func 70) [] [.var 0 gC], .func (.func 72) [] [.var 0 gC]], gW, true, 81⟩, some ⟨.ints .u8 (X ++ numLaw n size), (gB + 1), true, 5⟩]
  subst h1
  have hN := num_len n size
  refine small_ofG (R := nR72 n size X gC gW gB X.length owC) eM4_ok hmN (f := 72) (fn := f72) (by kernel_rfl) (by kernel_rfl) FnOrc.nil rfl (nR72_ok ?_) nR72_val ?_
  · simp (disch := (simp only [List.length_append, List.length_take, addO_eq, List.length_nil]; omega)) only [allP, Con.h, List.take_length, List.take_of_length_le, addO_eq, List.nil_append, Nat.zero_add, List.length_append, List.length_take, Nat.min_self, eq_self, true_and, and_true, decide_eq_true_eq, decide_eq_false_iff_not]
    omega
  · rw [nR72_tab, List.length_append]
    simp (disch := (simp only [List.length_append, List.length_take, addO_eq, List.length_nil]; omega)) only [List.take_length, List.take_of_length_le, addO_eq, List.nil_append]
noncomputable def nsm72 : Summary := fun args T => nsm72c args T (iOf (vAt args 0)) (iOf (vAt args 1)) (xsAt T 2) (gAt T 0) (gAt T 1) (gAt T 2) (lenOf (cAt T 1 0)) (owAt T 0)
theorem nsm72_ok : SmOk prog (fun _ => none) 72 nsm72 := fun args T h => nsm72c_ok h
noncomputable def nS70 : Summary := fun args T => match lenOf (vAt args 0) with
  | 1 => callR nsm70a [false, false, false, true, true] args T
  | 3 => callR nsm70c [false, false, false, false, false, true, true] args T
  | _ => fail
theorem nS70_ok : SumOk prog (fun _ => none) 70 nS70 := by
  intro args T hc
  unfold nS70 at hc ⊢
  split at hc
  · exact callR_ok nsm70a_ok _ args T hc
  · exact callR_ok nsm70c_ok _ args T hc
  · exact absurd hc nofail
noncomputable def nS72 : Summary := callR nsm72 [false, true, true]
theorem nS72_ok : SumOk prog (fun _ => none) 72 nS72 := callR_ok nsm72_ok _
end Go.Abs

set_option linter.unusedVariables false
set_option linter.unusedSimpArgs false
set_option maxRecDepth 100000
set_option maxHeartbeats 4000000
namespace Go.Abs
open Go.Proofs Go.Proofs.Try
/-! ### a leaf, written -/
def bareGLaw (s : Int) : Nat := if s = 3 then 3 else 2
def bareLaw (a b c : List Int) (s : Int) (d : List Int) : List Int := jn3Law a b c ++ (numLaw s 1 ++ if s = 3 then vec1Law d else [])
theorem bare3 (a b c d : List Int) {s : Int} (h : s = 3) : bareLaw a b c s d = jn3Law a b c ++ (numLaw s 1 ++ vec1Law d) ∧ bareGLaw s = 3 := by unfold bareLaw bareGLaw; rw [if_pos h, if_pos h]; exact ⟨rfl, rfl⟩
theorem bareN (a b c d : List Int) {s : Int} (h : s ≠ 3) : bareLaw a b c s d = jn3Law a b c ++ numLaw s 1 ∧ bareGLaw s = 2 := by unfold bareLaw bareGLaw; rw [if_neg h, if_neg h, List.append_nil]; exact ⟨rfl, rfl⟩
noncomputable def eM5 : Env := eN0 [(70, nS70), (72, nS72)]
theorem eM5_ok : EnvOk eM5 := envOf_ok tysN_ok (SumsOk.cons (fn := f70) nS70_ok (by kernel_rfl) (by kernel_rfl) (by kernel_rfl) (SumsOk.cons (fn := f72) nS72_ok (by kernel_rfl) (by kernel_rfl) (by kernel_rfl) trivial))
noncomputable def nR39y (a : List Int) (b : List Int) (c : List Int) (d : List Int) (z : List Int) (g1 : Nat) (g2 : Nat) (g3 : Nat) (g4 : Nat) (g5 : Nat) (n1 : Nat) (n2 : Nat) (n3 : Nat) (n4 : Nat) (n5 : Nat) (s : Int) (X : List Int) (gC : Nat) (gW : Nat) (gB : Nat) (m : Nat) (owC : Bool) : Res := resG 8 [0, 1, 2, 3, 4, 5, 6, 7] (runF eM5 f39 [] 400 [.var 0 gW, .agg [.slice 1 1 g1 0 n1 none, .slice 1 2 g2 0 n2 none, .slice 1 3 g3 0 n3 none, .int .i64 s, .slice 1 4 g4 0 n4 none, .slice 1 5 g5 0 n5 none]] [some ⟨.agg [.slice 1 6 gB 0 m none, .func (.func 70) [] [.var 7 gC], .func (.func 72) [] [.var 7 gC]], gW, true, 81⟩, some ⟨.ints .u8 a, g1, false, 5⟩, some ⟨.ints .u8 b, g2, false, 5⟩, some ⟨.ints .u8 c, g3, false, 5⟩, some ⟨.ints .u8 d, g4, false, 5⟩, some ⟨.ints .u8 z, g5, false, 5⟩, some ⟨.ints .u8 X, gB, true, 5⟩, some ⟨.agg [.var 0 gW], gC, owC, 75⟩] [some true])
theorem nR39y_ok {a : List Int} {b : List Int} {c : List Int} {d : List Int} {z : List Int} {g1 : Nat} {g2 : Nat} {g3 : Nat} {g4 : Nat} {g5 : Nat} {n1 : Nat} {n2 : Nat} {n3 : Nat} {n4 : Nat} {n5 : Nat} {s : Int} {X : List Int} {gC : Nat} {gW : Nat} {gB : Nat} {m : Nat} {owC : Bool} (h : allP [.eqN gW gW, .eqN gW gW, .eqN gW gW, .eqN gC gC, .eqN g1 g1, .eqN g2 g2, .eqN g3 g3, .eqN n1 a.length, .eqN
 n2 b.length, .eqN n3 c.length, .leN n1 65536, .leN n2 65536, .leN n3 65536, .eqN m X.length, .leN m 140737488000000, .eqN gW gW, .eqN gW gW, .eqN gW gW, .eqN gC gC, .eqN (X ++ jn3Law a b c).length (X ++ jn3Law a b c).length, .leN (X ++ jn3Law a b c).length 140737488000000, .p ((s == 3) = true), .eqN gW gW, .eqN gW gW, .eqN gW gW, .eqN gC gC, .eqN g4 g4, .leN n4 d.length, .leN n4 65536, .eqN (X ++
 jn3Law a b c ++ numLaw s 1).length (X ++ jn3Law a b c ++ numLaw s 1).length, .leN (X ++ jn3Law a b c ++ numLaw s 1).length 140737488000000]) : OkR (nR39y a b c d z g1 g2 g3 g4 g5 n1 n2 n3 n4 n5 s X gC gW gB m owC) := OkR.dem (fl := bitsF 78 441600527432517943280) (by kernel_rfl) (by kernel_rfl) (by kernel_rfl) h
theorem nR39y_val {a : List Int} {b : List Int} {c : List Int} {d : List Int} {z : List Int} {g1 : Nat} {g2 : Nat} {g3 : Nat} {g4 : Nat} {g5 : Nat} {n1 : Nat} {n2 : Nat} {n3 : Nat} {n4 : Nat} {n5 : Nat} {s : Int} {X : List Int} {gC : Nat} {gW : Nat} {gB : Nat} {m : Nat} {owC : Bool} : (nR39y a b c d z g1 g2 g3 g4 g5 n1 n2 n3 n4 n5 s X gC gW gB m owC).val = .tuple [] := by kernel_rfl
theorem nR39y_tab {a : List Int} {b : List Int} {c : List Int} {d : List Int} {z : List Int} {g1 : Nat} {g2 : Nat} {g3 : Nat} {g4 : Nat} {g5 : Nat} {n1 : Nat} {n2 : Nat} {n3 : Nat} {n4 : Nat} {n5 : Nat} {s : Int} {X : List Int} {gC : Nat} {gW : Nat} {gB : Nat} {m : Nat} {owC : Bool} : (nR39y a b c d z g1 g2 g3 g4 g5 n1 n2 n3 n4 n5 s X gC gW gB m owC).tab = [some ⟨.agg [.slice 1 6 (gB + 1 + 1 + 1) 0
 (X ++ jn3Law a b c ++ numLaw s 1 ++ v1Law n4 d).length none, .func (Fn.func 70) [] [.var 7 gC], .func (Fn.func 72) [] [.var 7 gC]], gW, true, 81⟩, some ⟨.ints .u8 a, g1, false, 5⟩, some ⟨.ints .u8 b, g2, false, 5⟩, some ⟨.ints .u8 c, g3, false, 5⟩, some ⟨.ints .u8 d, g4, false, 5⟩, some ⟨.ints .u8 z, g5, false, 5⟩, some ⟨.ints .u8 (X ++ jn3Law a b c ++ numLaw s 1 ++ v1Law n4 d), gB + 1 + 1 + 1,
 true, 5⟩, some ⟨.agg [.var 0 gW], gC, owC, 75⟩] := by kernel_rfl
noncomputable def nR39n (a : List Int) (b : List Int) (c : List Int) (d : List Int) (z : List Int) (g1 : Nat) (g2 : Nat) (g3 : Nat) (g4 : Nat) (g5 : Nat) (n1 : Nat) (n2 : Nat) (n3 : Nat) (n4 : Nat) (n5 : Nat) (s : Int) (X : List Int) (gC : Nat) (gW : Nat) (gB : Nat) (m : Nat) (owC : Bool) : Res := resG 8 [0, 1, 2, 3, 4, 5, 6, 7] (runF eM5 f39 [] 400 [.var 0 gW, .agg [.slice 1 1 g1 0 n1 none, .slice 1 2 g2 0 n2 none, .slice 1 3 g3 0 n3 none, .int .i64 s, .slice 1 4 g4 0 n4 none, .slice 1 5 g5 0 n5 none]] [some ⟨.agg [.slice 1 6 gB 0 m none, .func (.func 70) [] [.var 7 gC], .func (.func 72) [] [.var 7 gC]], gW, true, 81⟩, some ⟨.ints .u8 a, g1, false, 5⟩, some ⟨.ints .u8 b, g2, false, 5⟩, some ⟨.ints .u8 c, g3, false, 5⟩, some ⟨.ints .u8 d, g4, false, 5⟩, some ⟨.ints .u8 z, g5, false, 5⟩, some ⟨.ints .u8 X, gB, true, 5⟩, some ⟨.agg [.var 0 gW], gC, owC, 75⟩] [some false])
theorem nR39n_ok {a : List Int} {b : List Int} {c : List Int} {d : List Int} {z : List Int} {g1 : Nat} {g2 : Nat} {g3 : Nat} {g4 : Nat} {g5 : Nat} {n1 : Nat} {n2 : Nat} {n3 : Nat} {n4 : Nat} {n5 : Nat} {s : Int} {X : List Int} {gC : Nat} {gW : Nat} {gB : Nat} {m : Nat} {owC : Bool} (h : allP [.eqN gW gW, .eqN gW gW, .eqN gW gW, .eqN gC gC, .eqN g1 g1, .eqN g2 g2, .eqN g3 g3, .eqN n1 a.length, .eqN
 n2 b.length, .eqN n3 c.length, .leN n1 65536, .leN n2 65536, .leN n3 65536, .eqN m X.length, .leN m 140737488000000, .eqN gW gW, .eqN gW gW, .eqN gW gW, .eqN gC gC, .eqN (X ++ jn3Law a b c).length (X ++ jn3Law a b c).length, .leN (X ++ jn3Law a b c).length 140737488000000, .p ((s == 3) = false)]) : OkR (nR39n a b c d z g1 g2 g3 g4 g5 n1 n2 n3 n4 n5 s X gC gW gB m owC) := OkR.dem (fl := bitsF 56
 31591168095551472) (by kernel_rfl) (by kernel_rfl) (by kernel_rfl) h
theorem nR39n_val {a : List Int} {b : List Int} {c : List Int} {d : List Int} {z : List Int} {g1 : Nat} {g2 : Nat} {g3 : Nat} {g4 : Nat} {g5 : Nat} {n1 : Nat} {n2 : Nat} {n3 : Nat} {n4 : Nat} {n5 : Nat} {s : Int} {X : List Int} {gC : Nat} {gW : Nat} {gB : Nat} {m : Nat} {owC : Bool} : (nR39n a b c d z g1 g2 g3 g4 g5 n1 n2 n3 n4 n5 s X gC gW gB m owC).val = .tuple [] := by kernel_rfl
theorem nR39n_tab {a : List Int} {b : List Int} {c : List Int} {d : List Int} {z : List Int} {g1 : Nat} {g2 : Nat} {g3 : Nat} {g4 : Nat} {g5 : Nat} {n1 : Nat} {n2 : Nat} {n3 : Nat} {n4 : Nat} {n5 : Nat} {s : Int} {X : List Int} {gC : Nat} {gW : Nat} {gB : Nat} {m : Nat} {owC : Bool} : (nR39n a b c d z g1 g2 g3 g4 g5 n1 n2 n3 n4 n5 s X gC gW gB m owC).tab = [some ⟨.agg [.slice 1 6 (gB + 1 + 1) 0 (X
 ++ jn3Law a b c ++ numLaw s 1).length none, .func (Fn.func 70) [] [.var 7 gC], .func (Fn.func 72) [] [.var 7 gC]], gW, true, 81⟩, some ⟨.ints .u8 a, g1, false, 5⟩, some ⟨.ints .u8 b, g2, false, 5⟩, some ⟨.ints .u8 c, g3, false, 5⟩, some ⟨.ints .u8 d, g4, false, 5⟩, some ⟨.ints .u8 z, g5, false, 5⟩, some ⟨.ints .u8 (X ++ jn3Law a b c ++ numLaw s 1), gB + 1 + 1, true, 5⟩, some ⟨.agg [.var 0 gW], gC,
 owC, 75⟩] := by kernel_rfl
noncomputable def nsm39c (args : List AVal) (T : Tab) (a : List Int) (b : List Int) (c : List Int) (d : List Int) (z : List Int) (g1 : Nat) (g2 : Nat) (g3 : Nat) (g4 : Nat) (g5 : Nat) (n1 : Nat) (n2 : Nat) (n3 : Nat) (n4 : Nat) (n5 : Nat) (s : Int) (X : List Int) (gC : Nat) (gW : Nat) (gB : Nat) (m : Nat) (owC : Bool) : Res := ⟨[.tab T [some ⟨.agg [.slice 1 6 gB 0 m none, .func (.func 70) [] [.var 7 gC], .func (.func 72) [] [.var 7 gC]], gW, true, 81⟩, some ⟨.ints .u8 a, g1, false, 5⟩, some ⟨.ints .u8 b, g2, false, 5⟩, some ⟨.ints .u8 c, g3, false, 5⟩, some ⟨.ints .u8 d, g4, false, 5⟩, some ⟨.ints .u8 z, g5, false, 5⟩, some ⟨.ints .u8 X, gB, true, 5⟩, some ⟨.agg [.var 0 gW], gC, owC, 75⟩], .val (.tuple args) (.tuple [.var 0 gW, .agg [.slice 1 1 g1 0 n1 none, .slice 1 2 g2 0 n2 none, .slice 1 3 g3 0 n3 none, .int .i64 s, .slice 1 4 g4 0 n4 none, .slice 1 5 g5 0 n5 none]]), .eqN n1 a.length, .eqN n2 b.length, .eqN n3 c.length, .eqN n4 d.length, .leN n1 65536, .leN n2 65536, .leN n3 65536, .leN n4 65536, .eqN m X.length, .leN m 140737480000000], .tuple [], [some ⟨.agg [.slice 1 6 (gB + bareGLaw s) 0 (X ++ bareLaw a b c s d).length none, .func (.func 70) [] [.var 7 gC], .func (.func 72) [] [.var 7 gC]], gW, true, 81⟩, some ⟨.ints .u8 a, g1, false, 5⟩, some ⟨.ints .u8 b, g2, false, 5⟩, some ⟨.ints .u8 c, g3, false, 5⟩, some ⟨.ints .u8 d, g4, false, 5⟩, some ⟨.ints .u8 z, g5, false, 5⟩, some ⟨.ints .u8 (X ++ bareLaw a b c s d), (gB + bareGLaw s), true, 5⟩, some ⟨.agg [.var 0 gW], gC, owC, 75⟩]⟩
theorem nsm39c_ok {args : List AVal} {T : Tab} {a : List Int} {b : List Int} {c : List Int} {d : List Int} {z : List Int} {g1 : Nat} {g2 : Nat} {g3 : Nat} {g4 : Nat} {g5 : Nat} {n1 : Nat} {n2 : Nat} {n3 : Nat} {n4 : Nat} {n5 : Nat} {s : Int} {X : List Int} {gC : Nat} {gW : Nat} {gB : Nat} {m : Nat} {owC : Bool} (h : allP (nsm39c args T a b c d z g1 g2 g3 g4 g5 n1 n2 n3 n4 n5 s X gC gW gB m owC).cs) : Small prog (fun _ => none) 39 args T (nsm39c args T a b c d z g1 g2 g3 g4 g5 n1 n2 n3 n4 n5 s X gC gW gB m owC).val (nsm39c args T a b c d z g1 g2 g3 g4 g5 n1 n2 n3 n4 n5 s X gC gW gB m owC).tab := by
  obtain ⟨hT, hv, h1, h2, h3, h4, h5, h6, h7, h8, h9, h10, _⟩ := h
  simp only [Con.h] at hT hv h1 h2 h3 h4 h5 h6 h7 h8 h9 h10
  injection hv with hv
  subst hT hv
  show Small prog (fun _ => none) 39 [.var 0 gW, .agg [.slice 1 1 g1 0 n1 none, .slice 1 2 g2 0 n2 none, .slice 1 3 g3 0 n3 none, .int .i64 s, .slice 1 4 g4 0 n4 none, .slice 1 5 g5 0 n5 none]] [some ⟨.agg [.slice 1 6 gB 0 m none, .func (.func 70) [] [.var 7 gC], .func (.func 72) [] [.var 7 gC]], gW, true, 81⟩, some ⟨.ints .u8 a, g1, false, 5⟩, some ⟨.ints .u8 b, g2, false, 5⟩, some ⟨.ints .u8 c, g3, false, 5⟩, some ⟨.ints .u8 d, g4, false, 5⟩, some ⟨.ints .u8 z, g5, false, 5⟩, some ⟨.ints .u8 X, gB, true, 5⟩, some ⟨.agg [.var 0 gW], gC, owC, 75⟩] (.tuple []) [some ⟨.agg [.slice 1 6 (gB + bareGLaw s) 0 (X ++ bareLaw a b c s d).length none, .func (.func 70) [] [.var 7 gC], .func (.func 72) [] [.var 7 gC]], gW, true, 81⟩, some ⟨.ints .u8 a, g1, false, 5⟩, some ⟨.ints .u8 b, g2, false, 5⟩, some ⟨.ints .u8 c, g3, false, 5⟩, some ⟨.ints .u8 d, g4, false, 5⟩, some ⟨.ints .u8 z, g5, false, 5⟩, some ⟨.ints .u8 (X ++ bareLaw a b c s d), (gB + bareGLaw s), true, 5⟩, some ⟨.agg [.var 0 gW], gC, owC, 75⟩]
  subst h1 h2 h3 h4 h9
  have hA := lenLaw_len (a.length : Int)
  have hB := lenLaw_len (b.length : Int)
  have hC := lenLaw_len (c.length : Int)
  have hj := jn3_len a b c
  have hN := num_len s 1
  by_cases hs : s = 3
  · rw [(bare3 a b c d hs).1, (bare3 a b c d hs).2]
    refine small_ofG (R := nR39y a b c d z g1 g2 g3 g4 g5 a.length b.length c.length d.length n5 s X gC gW gB X.length owC) eM5_ok hmN (f := 39) (fn := f39) (by kernel_rfl) (by kernel_rfl) FnOrc.nil rfl (nR39y_ok ?_) nR39y_val ?_
    · simp only [allP, Con.h, eq_self, true_and, and_true, beq_iff_eq, beq_eq_false_iff_ne, ne_eq, decide_eq_true_eq, decide_eq_false_iff_not, List.length_append]
      omega
    · rw [nR39y_tab]
      simp only [v1Law, List.take_length, List.append_assoc]
  · rw [(bareN a b c d hs).1, (bareN a b c d hs).2]
    refine small_ofG (R := nR39n a b c d z g1 g2 g3 g4 g5 a.length b.length c.length d.length n5 s X gC gW gB X.length owC) eM5_ok hmN (f := 39) (fn := f39) (by kernel_rfl) (by kernel_rfl) FnOrc.nil rfl (nR39n_ok ?_) nR39n_val ?_
    · simp only [allP, Con.h, eq_self, true_and, and_true, beq_iff_eq, beq_eq_false_iff_ne, ne_eq, decide_eq_true_eq, decide_eq_false_iff_not, List.length_append]
      omega
    · rw [nR39n_tab]
      simp only [List.append_assoc]
noncomputable def nsm39 : Summary := fun args T => nsm39c args T (xsAt T 1) (xsAt T 2) (xsAt T 3) (xsAt T 4) (xsAt T 5) (gAt T 1) (gAt T 2) (gAt T 3) (gAt T 4) (gAt T 5) (lenOf ((vAt args 1).get 0)) (lenOf ((vAt args 1).get 1)) (lenOf ((vAt args 1).get 2)) (lenOf ((vAt args 1).get 4)) (lenOf ((vAt args 1).get 5)) (iOf ((vAt args 1).get 3)) (xsAt T 6) (gAt T 7) (gAt T 0) (gAt T 6) (lenOf (cAt T 0 0)) (owAt T 7)
theorem nsm39_ok : SmOk prog (fun _ => none) 39 nsm39 := fun args T h => nsm39c_ok h
noncomputable def nS39 : Summary := callR nsm39 [true, false, false, false, false, false, true, false]
theorem nS39_ok : SumOk prog (fun _ => none) 39 nS39 := callR_ok nsm39_ok _
def RightL (a b c : List Int) (s : Int) (d z : List Int) : Prop := RightN a.length b.length c.length s d.length z.length
instance (a b c : List Int) (s : Int) (d z : List Int) : Decidable (RightL a b c s d z) := by unfold RightL; exact inferInstance
theorem bare_len (a b c : List Int) (s : Int) (d : List Int) : (bareLaw a b c s d).length ≤ a.length + b.length + c.length + d.length + 24 := by
  have hA := lenLaw_len (a.length : Int)
  have hB := lenLaw_len (b.length : Int)
  have hC := lenLaw_len (c.length : Int)
  have hD := lenLaw_len (d.length : Int)
  have hN := num_len s 1
  have hj := jn3_len a b c
  unfold bareLaw
  split
  · unfold vec1Law
    simp only [List.length_append]
    omega
  · simp only [List.length_append, List.length_nil]
    omega
end Go.Abs

set_option linter.unusedVariables false
set_option linter.unusedSimpArgs false
set_option maxRecDepth 100000
set_option maxHeartbeats 4000000
namespace Go.Abs
open Go.Proofs Go.Proofs.Try
end Go.Abs

set_option linter.unusedVariables false
set_option linter.unusedSimpArgs false
set_option maxRecDepth 100000
set_option maxHeartbeats 4000000
namespace Go.Abs
open Go.Proofs Go.Proofs.Try
end Go.Abs

set_option linter.unusedVariables false
set_option linter.unusedSimpArgs false
set_option maxRecDepth 100000
set_option maxHeartbeats 4000000
namespace Go.Abs
open Go.Proofs Go.Proofs.Try
end Go.Abs

set_option linter.unusedVariables false
set_option linter.unusedSimpArgs false
set_option maxRecDepth 100000
set_option maxHeartbeats 4000000
namespace Go.Abs
open Go.Proofs Go.Proofs.Try
end Go.Abs

set_option linter.unusedVariables false
set_option linter.unusedSimpArgs false
set_option maxRecDepth 100000
set_option maxHeartbeats 4000000
namespace Go.Abs
open Go.Proofs Go.Proofs.Try
end Go.Abs

set_option linter.unusedVariables false
set_option linter.unusedSimpArgs false
set_option maxRecDepth 100000
set_option maxHeartbeats 4000000
namespace Go.Abs
open Go.Proofs Go.Proofs.Try
end Go.Abs

set_option linter.unusedVariables false
set_option linter.unusedSimpArgs false
set_option maxRecDepth 100000
set_option maxHeartbeats 4000000
namespace Go.Abs
open Go.Proofs Go.Proofs.Try
theorem lenLaw_by (n : Int) : ∀ c ∈ lenLaw n, 0 ≤ c ∧ c < 256 := by
  intro c hc
  unfold lenLaw at hc
  split at hc
  · cases hc
  split at hc
  · simp at hc; omega
  split at hc
  · simp at hc; omega
  · simp at hc; omega
end Go.Abs

set_option linter.unusedVariables false
set_option linter.unusedSimpArgs false
set_option maxRecDepth 100000
set_option maxHeartbeats 4000000
namespace Go.Abs
open Go.Proofs Go.Proofs.Try
/-! ### a leaf, read -/
def s1O (B : List Int) (off : Nat) (e : Int) : Nat := rvOLaw B off e
def s1E (B : List Int) (off : Nat) (e : Int) : Int := rvELaw B off e
def s2O (B : List Int) (off : Nat) (e : Int) : Nat := rvOLaw B (s1O B off e) (s1E B off e)
def s2E (B : List Int) (off : Nat) (e : Int) : Int := rvELaw B (s1O B off e) (s1E B off e)
def s3O (B : List Int) (off : Nat) (e : Int) : Nat := rvOLaw B (s2O B off e) (s2E B off e)
def s3E (B : List Int) (off : Nat) (e : Int) : Int := rvELaw B (s2O B off e) (s2E B off e)
def s4O (B : List Int) (off : Nat) (e : Int) : Nat := rnOLaw B (s3O B off e) (s3E B off e) 1
def s4E (B : List Int) (off : Nat) (e : Int) : Int := rnELaw B (s3O B off e) (s3E B off e) 1
def lfALaw (B : List Int) (off : Nat) (e : Int) : List Int := rvVLaw B off e
def lfBLaw (B : List Int) (off : Nat) (e : Int) : List Int := rvVLaw B (s1O B off e) (s1E B off e)
def lfCLaw (B : List Int) (off : Nat) (e : Int) : List Int := rvVLaw B (s2O B off e) (s2E B off e)
def lfSLaw (B : List Int) (off : Nat) (e : Int) : Int := rnVLaw B (s3O B off e) (s3E B off e) 1
def lfDLaw (B : List Int) (off : Nat) (e : Int) : List Int := if lfSLaw B off e = 3 then rvVLaw B (s4O B off e) (s4E B off e) else []
def s5O (B : List Int) (off : Nat) (e : Int) : Nat := if lfSLaw B off e = 3 then rvOLaw B (s4O B off e) (s4E B off e) else s4O B off e
def s5E (B : List Int) (off : Nat) (e : Int) : Int := if lfSLaw B off e = 3 then rvELaw B (s4O B off e) (s4E B off e) else s4E B off e
def lfZLaw (B : List Int) (off : Nat) (e : Int) : List Int := rvVLaw B (s5O B off e) (s5E B off e)
def lfOLaw (B : List Int) (off : Nat) (e : Int) : Nat := rvOLaw B (s5O B off e) (s5E B off e)
def lfELaw (B : List Int) (off : Nat) (e : Int) : Int := rvELaw B (s5O B off e) (s5E B off e)
end Go.Abs

set_option linter.unusedVariables false
set_option linter.unusedSimpArgs false
set_option maxRecDepth 100000
set_option maxHeartbeats 4000000
namespace Go.Abs
open Go.Proofs Go.Proofs.Try
def glOK (B : List Int) : Prop := reLaw B (lfOLaw B 0 0) (lfELaw B 0 0) = 0 ∧ RightL (lfALaw B 0 0) (lfBLaw B 0 0) (lfCLaw B 0 0) (lfSLaw B 0 0) (lfDLaw B 0 0) (lfZLaw B 0 0)
instance (B : List Int) : Decidable (glOK B) := by unfold glOK; exact inferInstance
end Go.Abs

set_option linter.unusedVariables false
set_option linter.unusedSimpArgs false
set_option maxRecDepth 100000
set_option maxHeartbeats 4000000
namespace Go.Abs
open Go.Proofs Go.Proofs.Try
noncomputable def nS76 : Summary := sumI modeO (eN0 []) f76 [] 100 [none] []
theorem nS76_ok : SumOk prog (fun _ => none) 76 nS76 := sumI_ok eN0_ok hmN (fn := f76) (by kernel_rfl) (by kernel_rfl) [] FnOrc.nil 100 [none] []
end Go.Abs

set_option linter.unusedVariables false
set_option linter.unusedSimpArgs false
set_option maxRecDepth 100000
set_option maxHeartbeats 4000000
namespace Go.Abs
open Go.Proofs Go.Proofs.Try
/-! ### knows: closed -/
noncomputable def sumD (m : Mode) (E : Env) (PS : List (Nat × Summary)) (fn : Func) (fu : Nat) (j : Option Nat) (g t : Nat) (ds : List (Option Bool)) (wr : List Bool) : Summary := callR (fun args T0 => settled m (fnRunD E PS fn [] fu j g t args T0 ds)) wr
theorem sumD_ok {m : Mode} {E : Env} (hE : EnvOk E) (hm : E.P.follows .mixedOrders = true) {PS : List (Nat × Summary)} (hP : PsOk E.P E.gl PS) {f : FuncId} {fn : Func} (hf : E.P.funcs[f]? = some fn) (hb : fn.body.isSome = true)
    {g : FuncId} {gfn : Func} (hgf : E.P.funcs[g]? = some gfn) (hgn : (gfn.name == "runtime.NumGoroutine") = false) (hgb : gfn.body.isNone = false) {t : TypeId} (hC : CaughtOk E.P g t .i64) (fu : Nat) (j : Option Nat) (ds : List (Option Bool)) (wr : List Bool) : SumOk E.P E.gl f (sumD m E PS fn fu j g t ds wr) := by
  refine callR_ok (fun args T0 hc => ?_) wr
  obtain ⟨h1, h2, h3⟩ := settled_ok hc
  rw [h2, h3]
  exact fnRunD_small hE hm hP hf hb FnOrc.nil hgf hgn hgb hC h1
noncomputable def nK69 : Summary := sumI modeO eM0 f69 [] 100 [] []
theorem nK69_ok : SumOk prog (fun _ => none) 69 nK69 := sumI_ok eM0_ok hmN (fn := f69) (by kernel_rfl) (by kernel_rfl) [] FnOrc.nil 100 [] []
noncomputable def eK1 : Env := eN0 [(48, nS48), (69, nK69)]
theorem eK1_ok : EnvOk eK1 := envOf_ok tysN_ok (SumsOk.cons (fn := f48) nS48_ok (by kernel_rfl) (by kernel_rfl) (by kernel_rfl) (SumsOk.cons (fn := f69) nK69_ok (by kernel_rfl) (by kernel_rfl) (by kernel_rfl) trivial))
noncomputable def nK49 : Summary := sumI modeO eK1 f49 [] 400 [] []
theorem nK49_ok : SumOk prog (fun _ => none) 49 nK49 := sumI_ok eK1_ok hmN (fn := f49) (by kernel_rfl) (by kernel_rfl) [] FnOrc.nil 400 [] []
noncomputable def nK38 : Summary := sumI modeO (eN0 []) f38 [] 100 [] []
theorem nK38_ok : SumOk prog (fun _ => none) 38 nK38 := sumI_ok eN0_ok hmN (fn := f38) (by kernel_rfl) (by kernel_rfl) [] FnOrc.nil 100 [] []
noncomputable def nK89 : Summary := sumI modeO eC1 f89 [] 400 [] []
theorem nK89_ok : SumOk prog (fun _ => none) 89 nK89 := sumI_ok eC1_ok hmN (fn := f89) (by kernel_rfl) (by kernel_rfl) [] FnOrc.nil 400 [] []
noncomputable def nK73 : Summary := sumI modeO eC1 f73 [] 400 [] []
theorem nK73_ok : SumOk prog (fun _ => none) 73 nK73 := sumI_ok eC1_ok hmN (fn := f73) (by kernel_rfl) (by kernel_rfl) [] FnOrc.nil 400 [] []
noncomputable def eK2 : Env := eN0 [(89, nK89)]
theorem eK2_ok : EnvOk eK2 := envOf_ok tysN_ok (SumsOk.cons (fn := f89) nK89_ok (by kernel_rfl) (by kernel_rfl) (by kernel_rfl) trivial)
noncomputable def nK71 : Summary := sumI modeO eK2 f71 [] 400 [] []
theorem nK71_ok : SumOk prog (fun _ => none) 71 nK71 := sumI_ok eK2_ok hmN (fn := f71) (by kernel_rfl) (by kernel_rfl) [] FnOrc.nil 400 [] []
noncomputable def eK3 : Env := eN0 [(71, nK71), (73, nK73)]
theorem eK3_ok : EnvOk eK3 := envOf_ok tysN_ok (SumsOk.cons (fn := f71) nK71_ok (by kernel_rfl) (by kernel_rfl) (by kernel_rfl) (SumsOk.cons (fn := f73) nK73_ok (by kernel_rfl) (by kernel_rfl) (by kernel_rfl) trivial))
noncomputable def nK70 : Summary := sumI modeO eK3 f70 [] 400 [] [true, true, true, true, true, true, true, true]
theorem nK70_ok : SumOk prog (fun _ => none) 70 nK70 := sumI_ok eK3_ok hmN (fn := f70) (by kernel_rfl) (by kernel_rfl) [] FnOrc.nil 400 [] [true, true, true, true, true, true, true, true]
noncomputable def nK72 : Summary := sumI modeO eK3 f72 [] 400 [] [true, true, true, true, true, true, true, true]
theorem nK72_ok : SumOk prog (fun _ => none) 72 nK72 := sumI_ok eK3_ok hmN (fn := f72) (by kernel_rfl) (by kernel_rfl) [] FnOrc.nil 400 [] [true, true, true, true, true, true, true, true]
noncomputable def eK4 : Env := eN0 [(38, nK38), (49, nK49), (70, nK70), (72, nK72)]
theorem eK4_ok : EnvOk eK4 := envOf_ok tysN_ok (SumsOk.cons (fn := f38) nK38_ok (by kernel_rfl) (by kernel_rfl) (by kernel_rfl) (SumsOk.cons (fn := f49) nK49_ok (by kernel_rfl) (by kernel_rfl) (by kernel_rfl) (SumsOk.cons (fn := f70) nK70_ok (by kernel_rfl) (by kernel_rfl) (by kernel_rfl) (SumsOk.cons (fn := f72) nK72_ok (by kernel_rfl) (by kernel_rfl) (by kernel_rfl) trivial))))
noncomputable def nK21 : Summary := sumD modeO eK4 [] f21 400 none 36 28 [] []
theorem nK21_ok : SumOk prog (fun _ => none) 21 nK21 := sumD_ok eK4_ok hmN PsOk.nil (fn := f21) (by kernel_rfl) (by kernel_rfl) (gfn := f36) (by kernel_rfl) (by kernel_rfl) (by kernel_rfl) caughtN 400 none [] []
noncomputable def nKP37 : Summary := sumP modeO eM1 psN1 f37 400 1 [] []
theorem nKP37_ok : SumOkP prog (fun _ => none) 37 nKP37 := sumP_ok eM1_ok hmN psN1_ok (fn := f37) (by kernel_rfl) 400 1 [] []
noncomputable def psK : List (Nat × Summary) := [(37, nKP37)]
theorem psK_ok : PsOk prog (fun _ => none) psK := (PsOk.cons (fn := f37) nKP37_ok (by kernel_rfl) (by kernel_rfl) (by kernel_rfl) PsOk.nil)
noncomputable def nK11 : Summary := sumD modeO (eN0 []) psK f11 400 (some 0) 36 28 [] []
theorem nK11_ok : SumOk prog (fun _ => none) 11 nK11 := sumD_ok eN0_ok hmN psK_ok (fn := f11) (by kernel_rfl) (by kernel_rfl) (gfn := f36) (by kernel_rfl) (by kernel_rfl) (by kernel_rfl) caughtN 400 (some 0) [] []
noncomputable def nK54 : Summary := sumI modeO eC1 f54 [] 400 [] [true, true]
theorem nK54_ok : SumOk prog (fun _ => none) 54 nK54 := sumI_ok eC1_ok hmN (fn := f54) (by kernel_rfl) (by kernel_rfl) [] FnOrc.nil 400 [] [true, true]
noncomputable def nK79 : Summary := sumI modeO eC1 f79 [] 400 [] [true, true]
theorem nK79_ok : SumOk prog (fun _ => none) 79 nK79 := sumI_ok eC1_ok hmN (fn := f79) (by kernel_rfl) (by kernel_rfl) [] FnOrc.nil 400 [] [true, true]
noncomputable def nK80 : Summary := sumI modeO eC1 f80 [] 400 [] [true, true]
theorem nK80_ok : SumOk prog (fun _ => none) 80 nK80 := sumI_ok eC1_ok hmN (fn := f80) (by kernel_rfl) (by kernel_rfl) [] FnOrc.nil 400 [] [true, true]
noncomputable def eK5 : Env := eN0 [(78, S35), (79, nK79), (80, nK80)]
theorem eK5_ok : EnvOk eK5 := envOf_ok tysN_ok (SumsOk.cons (fn := f78) S35_ok (by kernel_rfl) (by kernel_rfl) (by kernel_rfl) (SumsOk.cons (fn := f79) nK79_ok (by kernel_rfl) (by kernel_rfl) (by kernel_rfl) (SumsOk.cons (fn := f80) nK80_ok (by kernel_rfl) (by kernel_rfl) (by kernel_rfl) trivial)))
noncomputable def nK52 : Summary := sumI modeO eK5 f52 [] 400 [] [true, true]
theorem nK52_ok : SumOk prog (fun _ => none) 52 nK52 := sumI_ok eK5_ok hmN (fn := f52) (by kernel_rfl) (by kernel_rfl) [] FnOrc.nil 400 [] [true, true]
noncomputable def nK42 : Summary := sumI modeO eC1 f42 [] 400 [] []
theorem nK42_ok : SumOk prog (fun _ => none) 42 nK42 := sumI_ok eC1_ok hmN (fn := f42) (by kernel_rfl) (by kernel_rfl) [] FnOrc.nil 400 [] []
noncomputable def nK75 : Summary := sumI modeO eC1 f75 [] 400 [] []
theorem nK75_ok : SumOk prog (fun _ => none) 75 nK75 := sumI_ok eC1_ok hmN (fn := f75) (by kernel_rfl) (by kernel_rfl) [] FnOrc.nil 400 [] []
noncomputable def eK6 : Env := eN0 [(52, nK52), (54, nK54)]
theorem eK6_ok : EnvOk eK6 := envOf_ok tysN_ok (SumsOk.cons (fn := f52) nK52_ok (by kernel_rfl) (by kernel_rfl) (by kernel_rfl) (SumsOk.cons (fn := f54) nK54_ok (by kernel_rfl) (by kernel_rfl) (by kernel_rfl) trivial))
noncomputable def nK44 : Summary := sumI modeO eK6 f44 [] 400 [] [true, true]
theorem nK44_ok : SumOk prog (fun _ => none) 44 nK44 := sumI_ok eK6_ok hmN (fn := f44) (by kernel_rfl) (by kernel_rfl) [] FnOrc.nil 400 [] [true, true]
noncomputable def eK7 : Env := eN0 [(11, nK11), (75, nK75), (76, nS76)]
theorem eK7_ok : EnvOk eK7 := envOf_ok tysN_ok (SumsOk.cons (fn := f11) nK11_ok (by kernel_rfl) (by kernel_rfl) (by kernel_rfl) (SumsOk.cons (fn := f75) nK75_ok (by kernel_rfl) (by kernel_rfl) (by kernel_rfl) (SumsOk.cons (fn := f76) nS76_ok (by kernel_rfl) (by kernel_rfl) (by kernel_rfl) trivial)))
noncomputable def nK43 : Summary := sumI modeO eK7 f43 [] 400 [] [true, true]
theorem nK43_ok : SumOk prog (fun _ => none) 43 nK43 := sumI_ok eK7_ok hmN (fn := f43) (by kernel_rfl) (by kernel_rfl) [] FnOrc.nil 400 [] [true, true]
noncomputable def eK8 : Env := eN0 [(11, nK11), (42, nK42), (43, nK43), (44, nK44)]
theorem eK8_ok : EnvOk eK8 := envOf_ok tysN_ok (SumsOk.cons (fn := f11) nK11_ok (by kernel_rfl) (by kernel_rfl) (by kernel_rfl) (SumsOk.cons (fn := f42) nK42_ok (by kernel_rfl) (by kernel_rfl) (by kernel_rfl) (SumsOk.cons (fn := f43) nK43_ok (by kernel_rfl) (by kernel_rfl) (by kernel_rfl) (SumsOk.cons (fn := f44) nK44_ok (by kernel_rfl) (by kernel_rfl) (by kernel_rfl) trivial))))
noncomputable def nK13 : Summary := sumI modeO eK8 f13 [] 400 [] []
theorem nK13_ok : SumOk prog (fun _ => none) 13 nK13 := sumI_ok eK8_ok hmN (fn := f13) (by kernel_rfl) (by kernel_rfl) [] FnOrc.nil 400 [] []
noncomputable def nS15 : Summary := sumI modeO (eN0 []) f15 [] 100 [] []
theorem nS15_ok : SumOk prog (fun _ => none) 15 nS15 := sumI_ok eN0_ok hmN (fn := f15) (by kernel_rfl) (by kernel_rfl) [] FnOrc.nil 100 [] []
noncomputable def eK9 : Env := eN0 [(13, nK13), (15, nS15), (21, nK21)]
theorem eK9_ok : EnvOk eK9 := envOf_ok tysN_ok (SumsOk.cons (fn := f13) nK13_ok (by kernel_rfl) (by kernel_rfl) (by kernel_rfl) (SumsOk.cons (fn := f15) nS15_ok (by kernel_rfl) (by kernel_rfl) (by kernel_rfl) (SumsOk.cons (fn := f21) nK21_ok (by kernel_rfl) (by kernel_rfl) (by kernel_rfl) trivial)))
noncomputable def nR18  : Res := runF eK9 f18 [] 400 [] [] []
theorem nR18_ok  (h : allP [.p (false = false)]) : OkR (nR18 ) := OkR.dem (fl := bitsF 551 7371020360977896977605543466355265924447336027859925290944262381934006966883000275170270827045359166853507920627165347590711107782339653775546887874486502804798046207) (by kernel_rfl) (by kernel_rfl) (by kernel_rfl) h
theorem nR18_val  : (nR18 ).val = .bool true := by kernel_rfl
noncomputable def nsm18c (args : List AVal) (T : Tab)  : Res := ⟨[.tab T [], .val (.tuple args) (.tuple [])], .bool true, []⟩
theorem nsm18c_ok {args : List AVal} {T : Tab}  (h : allP (nsm18c args T ).cs) : Small prog (fun _ => none) 18 args T (nsm18c args T ).val (nsm18c args T ).tab := by
  obtain ⟨hT, hv, _⟩ := h
  simp only [Con.h] at hT hv
  injection hv with hv
  subst hT hv
  show Small prog (fun _ => none) 18 [] [] (.bool true) []
  have h := small_of (R := nR18) eK9_ok hmN (f := 18) (fn := f18) (by kernel_rfl) (by kernel_rfl) FnOrc.nil rfl (nR18_ok (by simp [allP, Con.h])) nR18_val rfl
  exact small_drop h
noncomputable def nsm18 : Summary := fun args T => nsm18c args T 
theorem nsm18_ok : SmOk prog (fun _ => none) 18 nsm18 := fun args T h => nsm18c_ok h
noncomputable def nS18 : Summary := callR nsm18 []
theorem nS18_ok : SumOk prog (fun _ => none) 18 nS18 := callR_ok nsm18_ok _
end Go.Abs

set_option linter.unusedVariables false
set_option linter.unusedSimpArgs false
set_option maxRecDepth 100000
set_option maxHeartbeats 4000000
namespace Go.Abs
open Go.Proofs Go.Proofs.Try
/-! ### copies, and whether they are the same -/
noncomputable def nS35 : Summary := sumI modeO (eN0 []) f35 [] 100 [] []
theorem nS35_ok : SumOk prog (fun _ => none) 35 nS35 := sumI_ok eN0_ok hmN (fn := f35) (by kernel_rfl) (by kernel_rfl) [] FnOrc.nil 100 [] []
noncomputable def eL10 : Env := eN0 [(35, nS35)]
theorem eL10_ok : EnvOk eL10 := envOf_ok tysN_ok (SumsOk.cons (fn := f35) nS35_ok (by kernel_rfl) (by kernel_rfl) (by kernel_rfl) trivial)
noncomputable def nR10 (a : List Int) (b : List Int) (c : List Int) (d : List Int) (z : List Int) (g1 : Nat) (g2 : Nat) (g3 : Nat) (g4 : Nat) (g5 : Nat) (n1 : Nat) (n2 : Nat) (n3 : Nat) (n4 : Nat) (n5 : Nat) (c1 : Option Nat) (c2 : Option Nat) (c3 : Option Nat) (c4 : Option Nat) (c5 : Option Nat) (o1 : Bool) (o2 : Bool) (o3 : Bool) (o4 : Bool) (o5 : Bool) (s : Int) : Res := resG 5 [0, 1, 2, 3, 4, 7, 8, 9, 10, 11] (runF eL10 f10 [] 400 [.agg [.slice 1 0 g1 0 n1 c1, .slice 1 1 g2 0 n2 c2, .slice 1 2 g3 0 n3 c3, .int .i64 s, .slice 1 3 g4 0 n4 c4, .slice 1 4 g5 0 n5 c5]] [some ⟨.ints .u8 a, g1, o1, 5⟩, some ⟨.ints .u8 b, g2, o2, 5⟩, some ⟨.ints .u8 c, g3, o3, 5⟩, some ⟨.ints .u8 d, g4, o4, 5⟩, some ⟨.ints .u8 z, g5, o5, 5⟩] [])
theorem nR10_ok {a : List Int} {b : List Int} {c : List Int} {d : List Int} {z : List Int} {g1 : Nat} {g2 : Nat} {g3 : Nat} {g4 : Nat} {g5 : Nat} {n1 : Nat} {n2 : Nat} {n3 : Nat} {n4 : Nat} {n5 : Nat} {c1 : Option Nat} {c2 : Option Nat} {c3 : Option Nat} {c4 : Option Nat} {c5 : Option Nat} {o1 : Bool} {o2 : Bool} {o3 : Bool} {o4 : Bool} {o5 : Bool} {s : Int} (h : allP [.eqN g1 g1, .leN n1
 140737488355328, .eqN g1 g1, .leN (0 + n1) a.length, .eqN g2 g2, .leN n2 140737488355328, .eqN g2 g2, .leN (0 + n2) b.length, .eqN g3 g3, .leN n3 140737488355328, .eqN g3 g3, .leN (0 + n3) c.length, .eqN g4 g4, .leN n4 140737488355328, .eqN g4 g4, .leN (0 + n4) d.length, .eqN g5 g5, .leN n5 140737488355328, .eqN g5 g5, .leN (0 + n5) z.length]) : OkR (nR10 a b c d z g1 g2 g3 g4 g5 n1 n2 n3 n4 n5 c1
 c2 c3 c4 c5 o1 o2 o3 o4 o5 s) := OkR.dem (fl := bitsF 158 319702980131707775241976909664992404520137877742) (by kernel_rfl) (by kernel_rfl) (by kernel_rfl) h
theorem nR10_val {a : List Int} {b : List Int} {c : List Int} {d : List Int} {z : List Int} {g1 : Nat} {g2 : Nat} {g3 : Nat} {g4 : Nat} {g5 : Nat} {n1 : Nat} {n2 : Nat} {n3 : Nat} {n4 : Nat} {n5 : Nat} {c1 : Option Nat} {c2 : Option Nat} {c3 : Option Nat} {c4 : Option Nat} {c5 : Option Nat} {o1 : Bool} {o2 : Bool} {o3 : Bool} {o4 : Bool} {o5 : Bool} {s : Int} : (nR10 a b c d z g1 g2 g3 g4 g5 n1 n2
 n3 n4 n5 c1 c2 c3 c4 c5 o1 o2 o3 o4 o5 s).val = .agg [.slice 1 5 1 0 n1 none, .slice 1 6 1 0 n2 none, .slice 1 7 1 0 n3 none, .int .i64 s, .slice 1 8 1 0 n4 none, .slice 1 9 1 0 n5 none] := by kernel_rfl
theorem nR10_tab {a : List Int} {b : List Int} {c : List Int} {d : List Int} {z : List Int} {g1 : Nat} {g2 : Nat} {g3 : Nat} {g4 : Nat} {g5 : Nat} {n1 : Nat} {n2 : Nat} {n3 : Nat} {n4 : Nat} {n5 : Nat} {c1 : Option Nat} {c2 : Option Nat} {c3 : Option Nat} {c4 : Option Nat} {c5 : Option Nat} {o1 : Bool} {o2 : Bool} {o3 : Bool} {o4 : Bool} {o5 : Bool} {s : Int} : (nR10 a b c d z g1 g2 g3 g4 g5 n1 n2
 n3 n4 n5 c1 c2 c3 c4 c5 o1 o2 o3 o4 o5 s).tab = [some ⟨.ints .u8 a, g1, o1, 5⟩, some ⟨.ints .u8 b, g2, o2, 5⟩, some ⟨.ints .u8 c, g3, o3, 5⟩, some ⟨.ints .u8 d, g4, o4, 5⟩, some ⟨.ints .u8 z, g5, o5, 5⟩, some ⟨.ints .u8 ([] ++ List.take n1 a), 1, true, 5⟩, some ⟨.ints .u8 ([] ++ List.take n2 b), 1, true, 5⟩, some ⟨.ints .u8 ([] ++ List.take n3 c), 1, true, 5⟩, some ⟨.ints .u8 ([] ++ List.take n4
 d), 1, true, 5⟩, some ⟨.ints .u8 ([] ++ List.take n5 z), 1, true, 5⟩] := by kernel_rfl
noncomputable def nsm10c (args : List AVal) (T : Tab) (a : List Int) (b : List Int) (c : List Int) (d : List Int) (z : List Int) (g1 : Nat) (g2 : Nat) (g3 : Nat) (g4 : Nat) (g5 : Nat) (n1 : Nat) (n2 : Nat) (n3 : Nat) (n4 : Nat) (n5 : Nat) (c1 : Option Nat) (c2 : Option Nat) (c3 : Option Nat) (c4 : Option Nat) (c5 : Option Nat) (o1 : Bool) (o2 : Bool) (o3 : Bool) (o4 : Bool) (o5 : Bool) (s : Int) : Res := ⟨[.tab T [some ⟨.ints .u8 a, g1, o1, 5⟩, some ⟨.ints .u8 b, g2, o2, 5⟩, some ⟨.ints .u8 c, g3, o3, 5⟩, some ⟨.ints .u8 d, g4, o4, 5⟩, some ⟨.ints .u8 z, g5, o5, 5⟩], .val (.tuple args) (.tuple [.agg [.slice 1 0 g1 0 n1 c1, .slice 1 1 g2 0 n2 c2, .slice 1 2 g3 0 n3 c3, .int .i64 s, .slice 1 3 g4 0 n4 c4, .slice 1 4 g5 0 n5 c5]]), .leN n1 a.length, .leN n2 b.length, .leN n3 c.length, .leN n4 d.length, .leN n5 z.length, .leN n1 140737488355000, .leN n2 140737488355000, .leN n3 140737488355000, .leN n4 140737488355000, .leN n5 140737488355000], .agg [.slice 1 5 1 0 n1 none, .slice 1 6 1 0 n2 none, .slice 1 7 1 0 n3 none, .int .i64 s, .slice 1 8 1 0 n4 none, .slice 1 9 1 0 n5 none], [some ⟨.ints .u8 a, g1, o1, 5⟩, some ⟨.ints .u8 b, g2, o2, 5⟩, some ⟨.ints .u8 c, g3, o3, 5⟩, some ⟨.ints .u8 d, g4, o4, 5⟩, some ⟨.ints .u8 z, g5, o5, 5⟩, some ⟨.ints .u8 (List.take n1 a), 1, true, 5⟩, some ⟨.ints .u8 (List.take n2 b), 1, true, 5⟩, some ⟨.ints .u8 (List.take n3 c), 1, true, 5⟩, some ⟨.ints .u8 (List.take n4 d), 1, true, 5⟩, some ⟨.ints .u8 (List.take n5 z), 1, true, 5⟩]⟩
theorem nsm10c_ok {args : List AVal} {T : Tab} {a : List Int} {b : List Int} {c : List Int} {d : List Int} {z : List Int} {g1 : Nat} {g2 : Nat} {g3 : Nat} {g4 : Nat} {g5 : Nat} {n1 : Nat} {n2 : Nat} {n3 : Nat} {n4 : Nat} {n5 : Nat} {c1 : Option Nat} {c2 : Option Nat} {c3 : Option Nat} {c4 : Option Nat} {c5 : Option Nat} {o1 : Bool} {o2 : Bool} {o3 : Bool} {o4 : Bool} {o5 : Bool} {s : Int} (h : allP (nsm10c args T a b c d z g1 g2 g3 g4 g5 n1 n2 n3 n4 n5 c1 c2 c3 c4 c5 o1 o2 o3 o4 o5 s).cs) : Small prog (fun _ => none) 10 args T (nsm10c args T a b c d z g1 g2 g3 g4 g5 n1 n2 n3 n4 n5 c1 c2 c3 c4 c5 o1 o2 o3 o4 o5 s).val (nsm10c args T a b c d z g1 g2 g3 g4 g5 n1 n2 n3 n4 n5 c1 c2 c3 c4 c5 o1 o2 o3 o4 o5 s).tab := by
  obtain ⟨hT, hv, h1, h2, h3, h4, h5, h6, h7, h8, h9, h10, _⟩ := h
  simp only [Con.h] at hT hv h1 h2 h3 h4 h5 h6 h7 h8 h9 h10
  injection hv with hv
  subst hT hv
  show Small prog (fun _ => none) 10 [.agg [.slice 1 0 g1 0 n1 c1, .slice 1 1 g2 0 n2 c2, .slice 1 2 g3 0 n3 c3, .int .i64 s, .slice 1 3 g4 0 n4 c4, .slice 1 4 g5 0 n5 c5]] [some ⟨.ints .u8 a, g1, o1, 5⟩, some ⟨.ints .u8 b, g2, o2, 5⟩, some ⟨.ints .u8 c, g3, o3, 5⟩, some ⟨.ints .u8 d, g4, o4, 5⟩, some ⟨.ints .u8 z, g5, o5, 5⟩] (.agg [.slice 1 5 1 0 n1 none, .slice 1 6 1 0 n2 none, .slice 1 7 1 0 n3 none, .int .i64 s, .slice 1 8 1 0 n4 none, .slice 1 9 1 0 n5 none]) [some ⟨.ints .u8 a, g1, o1, 5⟩, some ⟨.ints .u8 b, g2, o2, 5⟩, some ⟨.ints .u8 c, g3, o3, 5⟩, some ⟨.ints .u8 d, g4, o4, 5⟩, some ⟨.ints .u8 z, g5, o5, 5⟩, some ⟨.ints .u8 (List.take n1 a), 1, true, 5⟩, some ⟨.ints .u8 (List.take n2 b), 1, true, 5⟩, some ⟨.ints .u8 (List.take n3 c), 1, true, 5⟩, some ⟨.ints .u8 (List.take n4 d), 1, true, 5⟩, some ⟨.ints .u8 (List.take n5 z), 1, true, 5⟩]
  refine small_ofG (R := nR10 a b c d z g1 g2 g3 g4 g5 n1 n2 n3 n4 n5 c1 c2 c3 c4 c5 o1 o2 o3 o4 o5 s) eL10_ok hmN (f := 10) (fn := f10) (by kernel_rfl) (by kernel_rfl) FnOrc.nil rfl (nR10_ok ?_) nR10_val ?_
  · simp only [allP, Con.h, eq_self, true_and, and_true, beq_iff_eq, beq_eq_false_iff_ne, ne_eq, decide_eq_true_eq, decide_eq_false_iff_not, Nat.zero_add]
    omega
  · rw [nR10_tab]
    simp only [List.nil_append]
noncomputable def nsm10 : Summary := fun args T => nsm10c args T (xsAt T 0) (xsAt T 1) (xsAt T 2) (xsAt T 3) (xsAt T 4) (gAt T 0) (gAt T 1) (gAt T 2) (gAt T 3) (gAt T 4) (lenOf ((vAt args 0).get 0)) (lenOf ((vAt args 0).get 1)) (lenOf ((vAt args 0).get 2)) (lenOf ((vAt args 0).get 4)) (lenOf ((vAt args 0).get 5)) (capOf ((vAt args 0).get 0)) (capOf ((vAt args 0).get 1)) (capOf ((vAt args 0).get 2)) (capOf ((vAt args 0).get 4)) (capOf ((vAt args 0).get 5)) (owAt T 0) (owAt T 1) (owAt T 2) (owAt T 3) (owAt T 4) (iOf ((vAt args 0).get 3))
theorem nsm10_ok : SmOk prog (fun _ => none) 10 nsm10 := fun args T h => nsm10c_ok h
noncomputable def nS10 : Summary := callR nsm10 []
theorem nS10_ok : SumOk prog (fun _ => none) 10 nS10 := callR_ok nsm10_ok _
end Go.Abs

set_option linter.unusedVariables false
set_option linter.unusedSimpArgs false
set_option maxRecDepth 100000
set_option maxHeartbeats 4000000
namespace Go.Abs
open Go.Proofs Go.Proofs.Try
/-! ### may a package be? -/
def RightK (n1 n2 n3 n4 : Nat) (s : Int) (n5 n6 n7 : Nat) : Prop := n1 = 32 ∧ RightN n2 n3 n4 s n5 n6 ∧ s = 1 ∧ n7 = 64
instance (n1 n2 n3 n4 : Nat) (s : Int) (n5 n6 n7 : Nat) : Decidable (RightK n1 n2 n3 n4 s n5 n6 n7) := by unfold RightK; exact inferInstance
def oneLaw (s : Int) : Int := if s = 1 then 1 else 1
def offerLaw (x a b c : List Int) (s : Int) (d z : List Int) : List Int := numLaw (oneLaw s) 2 ++ (numLaw (oneLaw s) 2 ++ (vec1Law x ++ (bareLaw a b c s d ++ vec1Law z)))
def RightP (x a b c : List Int) (s : Int) (d z y : List Int) : Prop := RightK x.length a.length b.length c.length s d.length z.length y.length
instance (x a b c : List Int) (s : Int) (d z y : List Int) : Decidable (RightP x a b c s d z y) := by unfold RightP; exact inferInstance
def pkBLaw (x a b c : List Int) (s : Int) (d z y : List Int) : List Int := if RightP x a b c s d z y then offerLaw x a b c s d z ++ vec1Law y else []
end Go.Abs

set_option linter.unusedVariables false
set_option linter.unusedSimpArgs false
set_option maxRecDepth 100000
set_option maxHeartbeats 4000000
namespace Go.Abs
open Go.Proofs Go.Proofs.Try
end Go.Abs

set_option linter.unusedVariables false
set_option linter.unusedSimpArgs false
set_option maxRecDepth 100000
set_option maxHeartbeats 4000000
namespace Go.Abs
open Go.Proofs Go.Proofs.Try
/-! ### what is signed of a leaf -/
def RightS (n1 n2 n3 : Nat) (s : Int) (n4 n5 n6 : Nat) (k : Int) : Prop := RightN n1 n2 n3 s n4 n5 ∧ n6 ≤ 255 ∧ 0 ≤ k ∧ k < 64
instance (n1 n2 n3 : Nat) (s : Int) (n4 n5 n6 : Nat) (k : Int) : Decidable (RightS n1 n2 n3 s n4 n5 n6 k) := by unfold RightS; exact inferInstance
def RightT (a b c : List Int) (s : Int) (d z q : List Int) (k : Int) : Prop := RightS a.length b.length c.length s d.length z.length q.length k
instance (a b c : List Int) (s : Int) (d z q : List Int) (k : Int) : Decidable (RightT a b c s d z q k) := by unfold RightT; exact inferInstance
def tailLaw (s : Int) (q : List Int) (k : Int) : List Int := if s = 1 then [] else vec1Law q ++ numLaw k 4
def ltGenLaw (s : Int) : Nat := if s = 1 then bareGLaw s else bareGLaw s + 2
def ltBLaw (a b c : List Int) (s : Int) (d z q : List Int) (k : Int) : List Int := if RightT a b c s d z q k then bareLaw a b c s d ++ tailLaw s q k else []
def ltELaw (a b c : List Int) (s : Int) (d z q : List Int) (k : Int) : Int := if RightT a b c s d z q k then 0 else 1
def ltGLaw (a b c : List Int) (s : Int) (d z q : List Int) (k : Int) : Nat := if RightT a b c s d z q k then ltGenLaw s else 0
theorem lt_in {a b c : List Int} {s : Int} {d z q : List Int} {k : Int} (h : RightT a b c s d z q k) : ltBLaw a b c s d z q k = bareLaw a b c s d ++ tailLaw s q k ∧ ltELaw a b c s d z q k = 0 ∧ ltGLaw a b c s d z q k = ltGenLaw s := ⟨if_pos h, if_pos h, if_pos h⟩
theorem lt_out {a b c : List Int} {s : Int} {d z q : List Int} {k : Int} (h : ¬ RightT a b c s d z q k) : ltBLaw a b c s d z q k = [] ∧ ltELaw a b c s d z q k = 1 ∧ ltGLaw a b c s d z q k = 0 := ⟨if_neg h, if_neg h, if_neg h⟩
noncomputable def eM6c : Env := eN0 [(37, nS37), (38, nS38), (39, nS39), (48, nS48), (70, nS70), (72, nS72)]
theorem eM6c_ok : EnvOk eM6c := envOf_ok tysN_ok (SumsOk.cons (fn := f37) nS37_ok (by kernel_rfl) (by kernel_rfl) (by kernel_rfl) (SumsOk.cons (fn := f38) nS38_ok (by kernel_rfl) (by kernel_rfl) (by kernel_rfl) (SumsOk.cons (fn := f39) nS39_ok (by kernel_rfl) (by kernel_rfl) (by kernel_rfl) (SumsOk.cons (fn := f48) nS48_ok (by kernel_rfl) (by kernel_rfl) (by kernel_rfl) (SumsOk.cons (fn := f70) nS70_ok (by kernel_rfl) (by kernel_rfl) (by kernel_rfl) (SumsOk.cons (fn := f72) nS72_ok (by kernel_rfl) (by kernel_rfl) (by kernel_rfl) trivial))))))
noncomputable def psN2c : List (Nat × Summary) := [(37, nP37), (48, nP48)]
theorem psN2c_ok : PsOk prog (fun _ => none) psN2c := (PsOk.cons (fn := f37) nP37_ok (by kernel_rfl) (by kernel_rfl) (by kernel_rfl) (PsOk.cons (fn := f48) nP48_ok (by kernel_rfl) (by kernel_rfl) (by kernel_rfl) PsOk.nil))
noncomputable def nR19y (a : List Int) (b : List Int) (c : List Int) (d : List Int) (z : List Int) (g1 : Nat) (g2 : Nat) (g3 : Nat) (g4 : Nat) (g5 : Nat) (n1 : Nat) (n2 : Nat) (n3 : Nat) (n4 : Nat) (n5 : Nat) (s : Int) (q : List Int) (g6 : Nat) (n6 : Nat) (c6 : Option Nat) (o6 : Bool) (k : Int) : Res := resG 6 [0, 1, 2, 3, 4, 5, 9] (fnRunD eM6c psN2c f19 [] 400 none 36 28 [.agg [.slice 1 0 g1 0 n1 none, .slice 1 1 g2 0 n2 none, .slice 1 2 g3 0 n3 none, .int .i64 s, .slice 1 3 g4 0 n4 none, .slice 1 4 g5 0 n5 none], .slice 1 5 g6 0 n6 c6, .int .i64 k] [some ⟨.ints .u8 a, g1, false, 5⟩, some ⟨.ints .u8 b, g2, false, 5⟩, some ⟨.ints .u8 c, g3, false, 5⟩, some ⟨.ints .u8 d, g4, false, 5⟩, some ⟨.ints .u8 z, g5, false, 5⟩, some ⟨.ints .u8 q, g6, o6, 5⟩] [some true, some true, some true, some true])
theorem nR19y_ok {a : List Int} {b : List Int} {c : List Int} {d : List Int} {z : List Int} {g1 : Nat} {g2 : Nat} {g3 : Nat} {g4 : Nat} {g5 : Nat} {n1 : Nat} {n2 : Nat} {n3 : Nat} {n4 : Nat} {n5 : Nat} {s : Int} {q : List Int} {g6 : Nat} {n6 : Nat} {c6 : Option Nat} {o6 : Bool} {k : Int} (h : allP [.eqN g1 g1, .eqN g2 g2, .eqN g3 g3, .eqN g4 g4, .eqN g5 g5, .p (n1 = 32 ∧ n2 = 32 ∧ n5 = 64 ∧ 1 ≤ n3
 ∧ n3 ≤ 64 ∧ 1 ≤ s ∧ s ≤ 3 ∧ (n4 = 0 ∨ n4 = 32 ∧ s = 3)), .eqN g6 g6, .p (decide ((↑n6 : Int) ≤ 255) = true), .p (decide (0 ≤ k) = true), .p (decide (k < 64) = true), .eqN g1 g1, .eqN g2 g2, .eqN g3 g3, .eqN g4 g4, .eqN g5 g5, .eqN n1 a.length, .eqN n2 b.length, .eqN n3 c.length, .eqN n4 d.length, .leN n1 65536, .leN n2 65536, .leN n3 65536, .leN n4 65536, .p ((s != 1) = true), .eqN g6 g6, .leN n6
 q.length, .leN n6 65536, .eqN ([] ++ bareLaw a b c s d).length ([] ++ bareLaw a b c s d).length, .leN ([] ++ bareLaw a b c s d).length 140737488000000, .eqN ([] ++ bareLaw a b c s d ++ v1Law n6 q).length ([] ++ bareLaw a b c s d ++ v1Law n6 q).length, .leN ([] ++ bareLaw a b c s d ++ v1Law n6 q).length 140737488000000]) : OkR (nR19y a b c d z g1 g2 g3 g4 g5 n1 n2 n3 n4 n5 s q g6 n6 c6 o6 k) :=
 OkR.dem (fl := bitsF 75 37744272722607944695811) (by kernel_rfl) (by kernel_rfl) (by kernel_rfl) h
theorem nR19y_val {a : List Int} {b : List Int} {c : List Int} {d : List Int} {z : List Int} {g1 : Nat} {g2 : Nat} {g3 : Nat} {g4 : Nat} {g5 : Nat} {n1 : Nat} {n2 : Nat} {n3 : Nat} {n4 : Nat} {n5 : Nat} {s : Int} {q : List Int} {g6 : Nat} {n6 : Nat} {c6 : Option Nat} {o6 : Bool} {k : Int} : (nR19y a b c d z g1 g2 g3 g4 g5 n1 n2 n3 n4 n5 s q g6 n6 c6 o6 k).val = .tuple [.slice 1 6 (0 + bareGLaw s +
 1 + 1) 0 ([] ++ bareLaw a b c s d ++ v1Law n6 q ++ numLaw k 4).length none, .int .i64 0] := by kernel_rfl
theorem nR19y_tab {a : List Int} {b : List Int} {c : List Int} {d : List Int} {z : List Int} {g1 : Nat} {g2 : Nat} {g3 : Nat} {g4 : Nat} {g5 : Nat} {n1 : Nat} {n2 : Nat} {n3 : Nat} {n4 : Nat} {n5 : Nat} {s : Int} {q : List Int} {g6 : Nat} {n6 : Nat} {c6 : Option Nat} {o6 : Bool} {k : Int} : (nR19y a b c d z g1 g2 g3 g4 g5 n1 n2 n3 n4 n5 s q g6 n6 c6 o6 k).tab = [some ⟨.ints .u8 a, g1, false, 5⟩,
 some ⟨.ints .u8 b, g2, false, 5⟩, some ⟨.ints .u8 c, g3, false, 5⟩, some ⟨.ints .u8 d, g4, false, 5⟩, some ⟨.ints .u8 z, g5, false, 5⟩, some ⟨.ints .u8 q, g6, o6, 5⟩, some ⟨.ints .u8 ([] ++ bareLaw a b c s d ++ v1Law n6 q ++ numLaw k 4), 0 + bareGLaw s + 1 + 1, true, 5⟩] := by kernel_rfl
noncomputable def nR19n (a : List Int) (b : List Int) (c : List Int) (d : List Int) (z : List Int) (g1 : Nat) (g2 : Nat) (g3 : Nat) (g4 : Nat) (g5 : Nat) (n1 : Nat) (n2 : Nat) (n3 : Nat) (n4 : Nat) (n5 : Nat) (s : Int) (q : List Int) (g6 : Nat) (n6 : Nat) (c6 : Option Nat) (o6 : Bool) (k : Int) : Res := resG 6 [0, 1, 2, 3, 4, 5, 9] (fnRunD eM6c psN2c f19 [] 400 none 36 28 [.agg [.slice 1 0 g1 0 n1 none, .slice 1 1 g2 0 n2 none, .slice 1 2 g3 0 n3 none, .int .i64 s, .slice 1 3 g4 0 n4 none, .slice 1 4 g5 0 n5 none], .slice 1 5 g6 0 n6 c6, .int .i64 k] [some ⟨.ints .u8 a, g1, false, 5⟩, some ⟨.ints .u8 b, g2, false, 5⟩, some ⟨.ints .u8 c, g3, false, 5⟩, some ⟨.ints .u8 d, g4, false, 5⟩, some ⟨.ints .u8 z, g5, false, 5⟩, some ⟨.ints .u8 q, g6, o6, 5⟩] [some true, some true, some true, some false])
theorem nR19n_ok {a : List Int} {b : List Int} {c : List Int} {d : List Int} {z : List Int} {g1 : Nat} {g2 : Nat} {g3 : Nat} {g4 : Nat} {g5 : Nat} {n1 : Nat} {n2 : Nat} {n3 : Nat} {n4 : Nat} {n5 : Nat} {s : Int} {q : List Int} {g6 : Nat} {n6 : Nat} {c6 : Option Nat} {o6 : Bool} {k : Int} (h : allP [.eqN g1 g1, .eqN g2 g2, .eqN g3 g3, .eqN g4 g4, .eqN g5 g5, .p (n1 = 32 ∧ n2 = 32 ∧ n5 = 64 ∧ 1 ≤ n3
 ∧ n3 ≤ 64 ∧ 1 ≤ s ∧ s ≤ 3 ∧ (n4 = 0 ∨ n4 = 32 ∧ s = 3)), .eqN g6 g6, .p (decide ((↑n6 : Int) ≤ 255) = true), .p (decide (0 ≤ k) = true), .p (decide (k < 64) = true), .eqN g1 g1, .eqN g2 g2, .eqN g3 g3, .eqN g4 g4, .eqN g5 g5, .eqN n1 a.length, .eqN n2 b.length, .eqN n3 c.length, .eqN n4 d.length, .leN n1 65536, .leN n2 65536, .leN n3 65536, .leN n4 65536, .p ((s != 1) = false)]) : OkR (nR19n a b c
 d z g1 g2 g3 g4 g5 n1 n2 n3 n4 n5 s q g6 n6 c6 o6 k) := OkR.dem (fl := bitsF 50 1125332979744771) (by kernel_rfl) (by kernel_rfl) (by kernel_rfl) h
theorem nR19n_val {a : List Int} {b : List Int} {c : List Int} {d : List Int} {z : List Int} {g1 : Nat} {g2 : Nat} {g3 : Nat} {g4 : Nat} {g5 : Nat} {n1 : Nat} {n2 : Nat} {n3 : Nat} {n4 : Nat} {n5 : Nat} {s : Int} {q : List Int} {g6 : Nat} {n6 : Nat} {c6 : Option Nat} {o6 : Bool} {k : Int} : (nR19n a b c d z g1 g2 g3 g4 g5 n1 n2 n3 n4 n5 s q g6 n6 c6 o6 k).val = .tuple [.slice 1 6 (0 + bareGLaw s) 0
 ([] ++ bareLaw a b c s d).length none, .int .i64 0] := by kernel_rfl
theorem nR19n_tab {a : List Int} {b : List Int} {c : List Int} {d : List Int} {z : List Int} {g1 : Nat} {g2 : Nat} {g3 : Nat} {g4 : Nat} {g5 : Nat} {n1 : Nat} {n2 : Nat} {n3 : Nat} {n4 : Nat} {n5 : Nat} {s : Int} {q : List Int} {g6 : Nat} {n6 : Nat} {c6 : Option Nat} {o6 : Bool} {k : Int} : (nR19n a b c d z g1 g2 g3 g4 g5 n1 n2 n3 n4 n5 s q g6 n6 c6 o6 k).tab = [some ⟨.ints .u8 a, g1, false, 5⟩,
 some ⟨.ints .u8 b, g2, false, 5⟩, some ⟨.ints .u8 c, g3, false, 5⟩, some ⟨.ints .u8 d, g4, false, 5⟩, some ⟨.ints .u8 z, g5, false, 5⟩, some ⟨.ints .u8 q, g6, o6, 5⟩, some ⟨.ints .u8 ([] ++ bareLaw a b c s d), 0 + bareGLaw s, true, 5⟩] := by kernel_rfl
noncomputable def nR19a (a : List Int) (b : List Int) (c : List Int) (d : List Int) (z : List Int) (g1 : Nat) (g2 : Nat) (g3 : Nat) (g4 : Nat) (g5 : Nat) (n1 : Nat) (n2 : Nat) (n3 : Nat) (n4 : Nat) (n5 : Nat) (s : Int) (q : List Int) (g6 : Nat) (n6 : Nat) (c6 : Option Nat) (o6 : Bool) (k : Int) : Res := resG 6 [0, 1, 2, 3, 4, 5] (fnRunD eM6c psN2c f19 [] 400 (some 0) 36 28 [.agg [.slice 1 0 g1 0 n1 none, .slice 1 1 g2 0 n2 none, .slice 1 2 g3 0 n3 none, .int .i64 s, .slice 1 3 g4 0 n4 none, .slice 1 4 g5 0 n5 none], .slice 1 5 g6 0 n6 c6, .int .i64 k] [some ⟨.ints .u8 a, g1, false, 5⟩, some ⟨.ints .u8 b, g2, false, 5⟩, some ⟨.ints .u8 c, g3, false, 5⟩, some ⟨.ints .u8 d, g4, false, 5⟩, some ⟨.ints .u8 z, g5, false, 5⟩, some ⟨.ints .u8 q, g6, o6, 5⟩] [])
theorem nR19a_ok {a : List Int} {b : List Int} {c : List Int} {d : List Int} {z : List Int} {g1 : Nat} {g2 : Nat} {g3 : Nat} {g4 : Nat} {g5 : Nat} {n1 : Nat} {n2 : Nat} {n3 : Nat} {n4 : Nat} {n5 : Nat} {s : Int} {q : List Int} {g6 : Nat} {n6 : Nat} {c6 : Option Nat} {o6 : Bool} {k : Int} (h : allP [.eqN g1 g1, .eqN g2 g2, .eqN g3 g3, .eqN g4 g4, .eqN g5 g5, .p ¬(n1 = 32 ∧ n2 = 32 ∧ n5 = 64 ∧ 1 ≤ n3
 ∧ n3 ≤ 64 ∧ 1 ≤ s ∧ s ≤ 3 ∧ (n4 = 0 ∨ n4 = 32 ∧ s = 3))]) : OkR (nR19a a b c d z g1 g2 g3 g4 g5 n1 n2 n3 n4 n5 s q g6 n6 c6 o6 k) := OkR.dem (fl := bitsF 16 64515) (by kernel_rfl) (by kernel_rfl) (by kernel_rfl) h
theorem nR19a_val {a : List Int} {b : List Int} {c : List Int} {d : List Int} {z : List Int} {g1 : Nat} {g2 : Nat} {g3 : Nat} {g4 : Nat} {g5 : Nat} {n1 : Nat} {n2 : Nat} {n3 : Nat} {n4 : Nat} {n5 : Nat} {s : Int} {q : List Int} {g6 : Nat} {n6 : Nat} {c6 : Option Nat} {o6 : Bool} {k : Int} : (nR19a a b c d z g1 g2 g3 g4 g5 n1 n2 n3 n4 n5 s q g6 n6 c6 o6 k).val = .tuple [.nilSlice, .int .i64 1] := by
 kernel_rfl
theorem nR19a_tab {a : List Int} {b : List Int} {c : List Int} {d : List Int} {z : List Int} {g1 : Nat} {g2 : Nat} {g3 : Nat} {g4 : Nat} {g5 : Nat} {n1 : Nat} {n2 : Nat} {n3 : Nat} {n4 : Nat} {n5 : Nat} {s : Int} {q : List Int} {g6 : Nat} {n6 : Nat} {c6 : Option Nat} {o6 : Bool} {k : Int} : (nR19a a b c d z g1 g2 g3 g4 g5 n1 n2 n3 n4 n5 s q g6 n6 c6 o6 k).tab = [some ⟨.ints .u8 a, g1, false, 5⟩,
 some ⟨.ints .u8 b, g2, false, 5⟩, some ⟨.ints .u8 c, g3, false, 5⟩, some ⟨.ints .u8 d, g4, false, 5⟩, some ⟨.ints .u8 z, g5, false, 5⟩, some ⟨.ints .u8 q, g6, o6, 5⟩] := by kernel_rfl
noncomputable def nR19b (a : List Int) (b : List Int) (c : List Int) (d : List Int) (z : List Int) (g1 : Nat) (g2 : Nat) (g3 : Nat) (g4 : Nat) (g5 : Nat) (n1 : Nat) (n2 : Nat) (n3 : Nat) (n4 : Nat) (n5 : Nat) (s : Int) (q : List Int) (g6 : Nat) (n6 : Nat) (c6 : Option Nat) (o6 : Bool) (k : Int) : Res := resG 6 [0, 1, 2, 3, 4, 5] (fnRunD eM6c psN2c f19 [] 400 (some 1) 36 28 [.agg [.slice 1 0 g1 0 n1 none, .slice 1 1 g2 0 n2 none, .slice 1 2 g3 0 n3 none, .int .i64 s, .slice 1 3 g4 0 n4 none, .slice 1 4 g5 0 n5 none], .slice 1 5 g6 0 n6 c6, .int .i64 k] [some ⟨.ints .u8 a, g1, false, 5⟩, some ⟨.ints .u8 b, g2, false, 5⟩, some ⟨.ints .u8 c, g3, false, 5⟩, some ⟨.ints .u8 d, g4, false, 5⟩, some ⟨.ints .u8 z, g5, false, 5⟩, some ⟨.ints .u8 q, g6, o6, 5⟩] [some false])
theorem nR19b_ok {a : List Int} {b : List Int} {c : List Int} {d : List Int} {z : List Int} {g1 : Nat} {g2 : Nat} {g3 : Nat} {g4 : Nat} {g5 : Nat} {n1 : Nat} {n2 : Nat} {n3 : Nat} {n4 : Nat} {n5 : Nat} {s : Int} {q : List Int} {g6 : Nat} {n6 : Nat} {c6 : Option Nat} {o6 : Bool} {k : Int} (h : allP [.eqN g1 g1, .eqN g2 g2, .eqN g3 g3, .eqN g4 g4, .eqN g5 g5, .p (n1 = 32 ∧ n2 = 32 ∧ n5 = 64 ∧ 1 ≤ n3
 ∧ n3 ≤ 64 ∧ 1 ≤ s ∧ s ≤ 3 ∧ (n4 = 0 ∨ n4 = 32 ∧ s = 3)), .eqN g6 g6, .p (decide ((↑n6 : Int) ≤ 255) = false)]) : OkR (nR19b a b c d z g1 g2 g3 g4 g5 n1 n2 n3 n4 n5 s q g6 n6 c6 o6 k) := OkR.dem (fl := bitsF 18 258051) (by kernel_rfl) (by kernel_rfl) (by kernel_rfl) h
theorem nR19b_val {a : List Int} {b : List Int} {c : List Int} {d : List Int} {z : List Int} {g1 : Nat} {g2 : Nat} {g3 : Nat} {g4 : Nat} {g5 : Nat} {n1 : Nat} {n2 : Nat} {n3 : Nat} {n4 : Nat} {n5 : Nat} {s : Int} {q : List Int} {g6 : Nat} {n6 : Nat} {c6 : Option Nat} {o6 : Bool} {k : Int} : (nR19b a b c d z g1 g2 g3 g4 g5 n1 n2 n3 n4 n5 s q g6 n6 c6 o6 k).val = .tuple [.nilSlice, .int .i64 1] := by
 kernel_rfl
theorem nR19b_tab {a : List Int} {b : List Int} {c : List Int} {d : List Int} {z : List Int} {g1 : Nat} {g2 : Nat} {g3 : Nat} {g4 : Nat} {g5 : Nat} {n1 : Nat} {n2 : Nat} {n3 : Nat} {n4 : Nat} {n5 : Nat} {s : Int} {q : List Int} {g6 : Nat} {n6 : Nat} {c6 : Option Nat} {o6 : Bool} {k : Int} : (nR19b a b c d z g1 g2 g3 g4 g5 n1 n2 n3 n4 n5 s q g6 n6 c6 o6 k).tab = [some ⟨.ints .u8 a, g1, false, 5⟩,
 some ⟨.ints .u8 b, g2, false, 5⟩, some ⟨.ints .u8 c, g3, false, 5⟩, some ⟨.ints .u8 d, g4, false, 5⟩, some ⟨.ints .u8 z, g5, false, 5⟩, some ⟨.ints .u8 q, g6, o6, 5⟩] := by kernel_rfl
noncomputable def nR19c (a : List Int) (b : List Int) (c : List Int) (d : List Int) (z : List Int) (g1 : Nat) (g2 : Nat) (g3 : Nat) (g4 : Nat) (g5 : Nat) (n1 : Nat) (n2 : Nat) (n3 : Nat) (n4 : Nat) (n5 : Nat) (s : Int) (q : List Int) (g6 : Nat) (n6 : Nat) (c6 : Option Nat) (o6 : Bool) (k : Int) : Res := resG 6 [0, 1, 2, 3, 4, 5] (fnRunD eM6c psN2c f19 [] 400 (some 1) 36 28 [.agg [.slice 1 0 g1 0 n1 none, .slice 1 1 g2 0 n2 none, .slice 1 2 g3 0 n3 none, .int .i64 s, .slice 1 3 g4 0 n4 none, .slice 1 4 g5 0 n5 none], .slice 1 5 g6 0 n6 c6, .int .i64 k] [some ⟨.ints .u8 a, g1, false, 5⟩, some ⟨.ints .u8 b, g2, false, 5⟩, some ⟨.ints .u8 c, g3, false, 5⟩, some ⟨.ints .u8 d, g4, false, 5⟩, some ⟨.ints .u8 z, g5, false, 5⟩, some ⟨.ints .u8 q, g6, o6, 5⟩] [some true, some false])
theorem nR19c_ok {a : List Int} {b : List Int} {c : List Int} {d : List Int} {z : List Int} {g1 : Nat} {g2 : Nat} {g3 : Nat} {g4 : Nat} {g5 : Nat} {n1 : Nat} {n2 : Nat} {n3 : Nat} {n4 : Nat} {n5 : Nat} {s : Int} {q : List Int} {g6 : Nat} {n6 : Nat} {c6 : Option Nat} {o6 : Bool} {k : Int} (h : allP [.eqN g1 g1, .eqN g2 g2, .eqN g3 g3, .eqN g4 g4, .eqN g5 g5, .p (n1 = 32 ∧ n2 = 32 ∧ n5 = 64 ∧ 1 ≤ n3
 ∧ n3 ≤ 64 ∧ 1 ≤ s ∧ s ≤ 3 ∧ (n4 = 0 ∨ n4 = 32 ∧ s = 3)), .eqN g6 g6, .p (decide ((↑n6 : Int) ≤ 255) = true), .p (decide (0 ≤ k) = false)]) : OkR (nR19c a b c d z g1 g2 g3 g4 g5 n1 n2 n3 n4 n5 s q g6 n6 c6 o6 k) := OkR.dem (fl := bitsF 19 516099) (by kernel_rfl) (by kernel_rfl) (by kernel_rfl) h
theorem nR19c_val {a : List Int} {b : List Int} {c : List Int} {d : List Int} {z : List Int} {g1 : Nat} {g2 : Nat} {g3 : Nat} {g4 : Nat} {g5 : Nat} {n1 : Nat} {n2 : Nat} {n3 : Nat} {n4 : Nat} {n5 : Nat} {s : Int} {q : List Int} {g6 : Nat} {n6 : Nat} {c6 : Option Nat} {o6 : Bool} {k : Int} : (nR19c a b c d z g1 g2 g3 g4 g5 n1 n2 n3 n4 n5 s q g6 n6 c6 o6 k).val = .tuple [.nilSlice, .int .i64 1] := by
 kernel_rfl
theorem nR19c_tab {a : List Int} {b : List Int} {c : List Int} {d : List Int} {z : List Int} {g1 : Nat} {g2 : Nat} {g3 : Nat} {g4 : Nat} {g5 : Nat} {n1 : Nat} {n2 : Nat} {n3 : Nat} {n4 : Nat} {n5 : Nat} {s : Int} {q : List Int} {g6 : Nat} {n6 : Nat} {c6 : Option Nat} {o6 : Bool} {k : Int} : (nR19c a b c d z g1 g2 g3 g4 g5 n1 n2 n3 n4 n5 s q g6 n6 c6 o6 k).tab = [some ⟨.ints .u8 a, g1, false, 5⟩,
 some ⟨.ints .u8 b, g2, false, 5⟩, some ⟨.ints .u8 c, g3, false, 5⟩, some ⟨.ints .u8 d, g4, false, 5⟩, some ⟨.ints .u8 z, g5, false, 5⟩, some ⟨.ints .u8 q, g6, o6, 5⟩] := by kernel_rfl
noncomputable def nR19d (a : List Int) (b : List Int) (c : List Int) (d : List Int) (z : List Int) (g1 : Nat) (g2 : Nat) (g3 : Nat) (g4 : Nat) (g5 : Nat) (n1 : Nat) (n2 : Nat) (n3 : Nat) (n4 : Nat) (n5 : Nat) (s : Int) (q : List Int) (g6 : Nat) (n6 : Nat) (c6 : Option Nat) (o6 : Bool) (k : Int) : Res := resG 6 [0, 1, 2, 3, 4, 5] (fnRunD eM6c psN2c f19 [] 400 (some 1) 36 28 [.agg [.slice 1 0 g1 0 n1 none, .slice 1 1 g2 0 n2 none, .slice 1 2 g3 0 n3 none, .int .i64 s, .slice 1 3 g4 0 n4 none, .slice 1 4 g5 0 n5 none], .slice 1 5 g6 0 n6 c6, .int .i64 k] [some ⟨.ints .u8 a, g1, false, 5⟩, some ⟨.ints .u8 b, g2, false, 5⟩, some ⟨.ints .u8 c, g3, false, 5⟩, some ⟨.ints .u8 d, g4, false, 5⟩, some ⟨.ints .u8 z, g5, false, 5⟩, some ⟨.ints .u8 q, g6, o6, 5⟩] [some true, some true, some false])
theorem nR19d_ok {a : List Int} {b : List Int} {c : List Int} {d : List Int} {z : List Int} {g1 : Nat} {g2 : Nat} {g3 : Nat} {g4 : Nat} {g5 : Nat} {n1 : Nat} {n2 : Nat} {n3 : Nat} {n4 : Nat} {n5 : Nat} {s : Int} {q : List Int} {g6 : Nat} {n6 : Nat} {c6 : Option Nat} {o6 : Bool} {k : Int} (h : allP [.eqN g1 g1, .eqN g2 g2, .eqN g3 g3, .eqN g4 g4, .eqN g5 g5, .p (n1 = 32 ∧ n2 = 32 ∧ n5 = 64 ∧ 1 ≤ n3
 ∧ n3 ≤ 64 ∧ 1 ≤ s ∧ s ≤ 3 ∧ (n4 = 0 ∨ n4 = 32 ∧ s = 3)), .eqN g6 g6, .p (decide ((↑n6 : Int) ≤ 255) = true), .p (decide (0 ≤ k) = true), .p (decide (k < 64) = false)]) : OkR (nR19d a b c d z g1 g2 g3 g4 g5 n1 n2 n3 n4 n5 s q g6 n6 c6 o6 k) := OkR.dem (fl := bitsF 20 1032195) (by kernel_rfl) (by kernel_rfl) (by kernel_rfl) h
theorem nR19d_val {a : List Int} {b : List Int} {c : List Int} {d : List Int} {z : List Int} {g1 : Nat} {g2 : Nat} {g3 : Nat} {g4 : Nat} {g5 : Nat} {n1 : Nat} {n2 : Nat} {n3 : Nat} {n4 : Nat} {n5 : Nat} {s : Int} {q : List Int} {g6 : Nat} {n6 : Nat} {c6 : Option Nat} {o6 : Bool} {k : Int} : (nR19d a b c d z g1 g2 g3 g4 g5 n1 n2 n3 n4 n5 s q g6 n6 c6 o6 k).val = .tuple [.nilSlice, .int .i64 1] := by
 kernel_rfl
theorem nR19d_tab {a : List Int} {b : List Int} {c : List Int} {d : List Int} {z : List Int} {g1 : Nat} {g2 : Nat} {g3 : Nat} {g4 : Nat} {g5 : Nat} {n1 : Nat} {n2 : Nat} {n3 : Nat} {n4 : Nat} {n5 : Nat} {s : Int} {q : List Int} {g6 : Nat} {n6 : Nat} {c6 : Option Nat} {o6 : Bool} {k : Int} : (nR19d a b c d z g1 g2 g3 g4 g5 n1 n2 n3 n4 n5 s q g6 n6 c6 o6 k).tab = [some ⟨.ints .u8 a, g1, false, 5⟩,
 some ⟨.ints .u8 b, g2, false, 5⟩, some ⟨.ints .u8 c, g3, false, 5⟩, some ⟨.ints .u8 d, g4, false, 5⟩, some ⟨.ints .u8 z, g5, false, 5⟩, some ⟨.ints .u8 q, g6, o6, 5⟩] := by kernel_rfl
noncomputable def nsm19c (args : List AVal) (T : Tab) (a : List Int) (b : List Int) (c : List Int) (d : List Int) (z : List Int) (g1 : Nat) (g2 : Nat) (g3 : Nat) (g4 : Nat) (g5 : Nat) (n1 : Nat) (n2 : Nat) (n3 : Nat) (n4 : Nat) (n5 : Nat) (s : Int) (q : List Int) (g6 : Nat) (n6 : Nat) (c6 : Option Nat) (o6 : Bool) (k : Int) : Res := ⟨[.tab T [some ⟨.ints .u8 a, g1, false, 5⟩, some ⟨.ints .u8 b, g2, false, 5⟩, some ⟨.ints .u8 c, g3, false, 5⟩, some ⟨.ints .u8 d, g4, false, 5⟩, some ⟨.ints .u8 z, g5, false, 5⟩, some ⟨.ints .u8 q, g6, o6, 5⟩], .val (.tuple args) (.tuple [.agg [.slice 1 0 g1 0 n1 none, .slice 1 1 g2 0 n2 none, .slice 1 2 g3 0 n3 none, .int .i64 s, .slice 1 3 g4 0 n4 none, .slice 1 4 g5 0 n5 none], .slice 1 5 g6 0 n6 c6, .int .i64 k]), .eqN n1 a.length, .eqN n2 b.length, .eqN n3 c.length, .eqN n4 d.length, .eqN n5 z.length, .leN n6 q.length, .leN n6 140737488355000], .tuple [.slice 1 6 (ltGLaw a b c s d z (List.take n6 q) k) 0 (ltBLaw a b c s d z (List.take n6 q) k).length none, .int .i64 (ltELaw a b c s d z (List.take n6 q) k)], [some ⟨.ints .u8 a, g1, false, 5⟩, some ⟨.ints .u8 b, g2, false, 5⟩, some ⟨.ints .u8 c, g3, false, 5⟩, some ⟨.ints .u8 d, g4, false, 5⟩, some ⟨.ints .u8 z, g5, false, 5⟩, some ⟨.ints .u8 q, g6, o6, 5⟩, some ⟨.ints .u8 (ltBLaw a b c s d z (List.take n6 q) k), (ltGLaw a b c s d z (List.take n6 q) k), true, 5⟩]⟩
theorem nsm19c_ok {args : List AVal} {T : Tab} {a : List Int} {b : List Int} {c : List Int} {d : List Int} {z : List Int} {g1 : Nat} {g2 : Nat} {g3 : Nat} {g4 : Nat} {g5 : Nat} {n1 : Nat} {n2 : Nat} {n3 : Nat} {n4 : Nat} {n5 : Nat} {s : Int} {q : List Int} {g6 : Nat} {n6 : Nat} {c6 : Option Nat} {o6 : Bool} {k : Int} (h : allP (nsm19c args T a b c d z g1 g2 g3 g4 g5 n1 n2 n3 n4 n5 s q g6 n6 c6 o6 k).cs) : Small prog (fun _ => none) 19 args T (nsm19c args T a b c d z g1 g2 g3 g4 g5 n1 n2 n3 n4 n5 s q g6 n6 c6 o6 k).val (nsm19c args T a b c d z g1 g2 g3 g4 g5 n1 n2 n3 n4 n5 s q g6 n6 c6 o6 k).tab := by
  obtain ⟨hT, hv, h1, h2, h3, h4, h5, h6, h7, _⟩ := h
  simp only [Con.h] at hT hv h1 h2 h3 h4 h5 h6 h7
  injection hv with hv
  subst hT hv
  show Small prog (fun _ => none) 19 [.agg [.slice 1 0 g1 0 n1 none, .slice 1 1 g2 0 n2 none, .slice 1 2 g3 0 n3 none, .int .i64 s, .slice 1 3 g4 0 n4 none, .slice 1 4 g5 0 n5 none], .slice 1 5 g6 0 n6 c6, .int .i64 k] [some ⟨.ints .u8 a, g1, false, 5⟩, some ⟨.ints .u8 b, g2, false, 5⟩, some ⟨.ints .u8 c, g3, false, 5⟩, some ⟨.ints .u8 d, g4, false, 5⟩, some ⟨.ints .u8 z, g5, false, 5⟩, some ⟨.ints .u8 q, g6, o6, 5⟩] (.tuple [.slice 1 6 (ltGLaw a b c s d z (List.take n6 q) k) 0 (ltBLaw a b c s d z (List.take n6 q) k).length none, .int .i64 (ltELaw a b c s d z (List.take n6 q) k)]) [some ⟨.ints .u8 a, g1, false, 5⟩, some ⟨.ints .u8 b, g2, false, 5⟩, some ⟨.ints .u8 c, g3, false, 5⟩, some ⟨.ints .u8 d, g4, false, 5⟩, some ⟨.ints .u8 z, g5, false, 5⟩, some ⟨.ints .u8 q, g6, o6, 5⟩, some ⟨.ints .u8 (ltBLaw a b c s d z (List.take n6 q) k), (ltGLaw a b c s d z (List.take n6 q) k), true, 5⟩]
  subst h1 h2 h3 h4 h5
  have l6 : (List.take n6 q).length = n6 := by rw [List.length_take]; omega
  have hq := v1_len h6
  have hL := lenLaw_len (n6 : Int)
  by_cases hR : RightT a b c s d z (List.take n6 q) k
  · rw [(lt_in hR).1, (lt_in hR).2.1, (lt_in hR).2.2]
    have hR' := hR
    unfold RightT at hR'
    rw [l6] at hR'
    obtain ⟨hN, qa, qb, qc⟩ := hR'
    have hN' := hN
    obtain ⟨q1, q2, q3, q4, q5, q6, q7, q8⟩ := hN'
    have hb := bare_len a b c s d
    have hk := num_len k 4
    have hv1 : vec1Law (List.take n6 q) = v1Law n6 q := rfl
    by_cases hs : s = 1
    · rw [show tailLaw s (List.take n6 q) k = [] from if_pos hs, show ltGenLaw s = bareGLaw s from if_pos hs, List.append_nil]
      have e : 0 + bareGLaw s = bareGLaw s := by omega
      refine small_ofDG (R := nR19n a b c d z g1 g2 g3 g4 g5 a.length b.length c.length d.length z.length s q g6 n6 c6 o6 k) eM6c_ok hmN psN2c_ok (f := 19) (fn := f19) (by kernel_rfl) (by kernel_rfl) FnOrc.nil (gfn := f36) (by kernel_rfl) (by kernel_rfl) (by kernel_rfl) caughtN rfl (nR19n_ok ?_) ?_ ?_
      · simp only [allP, Con.h, eq_self, true_and, and_true, beq_iff_eq, beq_eq_false_iff_ne, ne_eq, decide_eq_true_eq, decide_eq_false_iff_not, List.nil_append, bne_iff_ne, bne_eq_false_iff_eq]
        omega
      · rw [nR19n_val, e]
        simp only [List.nil_append]
      · rw [nR19n_tab, e]
        simp only [List.nil_append]
    · rw [show tailLaw s (List.take n6 q) k = vec1Law (List.take n6 q) ++ numLaw k 4 from if_neg hs, show ltGenLaw s = bareGLaw s + 2 from if_neg hs, hv1]
      have e : 0 + bareGLaw s + 1 + 1 = bareGLaw s + 2 := by omega
      refine small_ofDG (R := nR19y a b c d z g1 g2 g3 g4 g5 a.length b.length c.length d.length z.length s q g6 n6 c6 o6 k) eM6c_ok hmN psN2c_ok (f := 19) (fn := f19) (by kernel_rfl) (by kernel_rfl) FnOrc.nil (gfn := f36) (by kernel_rfl) (by kernel_rfl) (by kernel_rfl) caughtN rfl (nR19y_ok ?_) ?_ ?_
      · simp only [allP, Con.h, eq_self, true_and, and_true, beq_iff_eq, beq_eq_false_iff_ne, ne_eq, decide_eq_true_eq, decide_eq_false_iff_not, List.nil_append, bne_iff_ne, bne_eq_false_iff_eq, List.length_append]
        omega
      · rw [nR19y_val, e]
        simp only [List.nil_append, List.append_assoc]
      · rw [nR19y_tab, e]
        simp only [List.nil_append, List.append_assoc]
  · rw [(lt_out hR).1, (lt_out hR).2.1, (lt_out hR).2.2]
    unfold RightT at hR
    rw [l6] at hR
    by_cases hN : RightN a.length b.length c.length s d.length z.length
    rotate_left
    · exact small_nil2 .u8 5 (.inr rfl) (small_ofDG (R := nR19a a b c d z g1 g2 g3 g4 g5 a.length b.length c.length d.length z.length s q g6 n6 c6 o6 k) eM6c_ok hmN psN2c_ok (f := 19) (fn := f19) (by kernel_rfl) (by kernel_rfl) FnOrc.nil (gfn := f36) (by kernel_rfl) (by kernel_rfl) (by kernel_rfl) caughtN rfl (nR19a_ok (by
      simp only [allP, Con.h, eq_self, true_and, and_true, beq_iff_eq, beq_eq_false_iff_ne, ne_eq, decide_eq_true_eq, decide_eq_false_iff_not]
      exact hN)) nR19a_val nR19a_tab) (by simp)
    by_cases qa : n6 ≤ 255
    rotate_left
    · exact small_nil2 .u8 5 (.inr rfl) (small_ofDG (R := nR19b a b c d z g1 g2 g3 g4 g5 a.length b.length c.length d.length z.length s q g6 n6 c6 o6 k) eM6c_ok hmN psN2c_ok (f := 19) (fn := f19) (by kernel_rfl) (by kernel_rfl) FnOrc.nil (gfn := f36) (by kernel_rfl) (by kernel_rfl) (by kernel_rfl) caughtN rfl (nR19b_ok (by
      simp only [allP, Con.h, eq_self, true_and, and_true, beq_iff_eq, beq_eq_false_iff_ne, ne_eq, decide_eq_true_eq, decide_eq_false_iff_not]
      obtain ⟨q1, q2, q3, q4, q5, q6, q7, q8⟩ := hN; omega)) nR19b_val nR19b_tab) (by simp)
    by_cases qb : 0 ≤ k
    rotate_left
    · exact small_nil2 .u8 5 (.inr rfl) (small_ofDG (R := nR19c a b c d z g1 g2 g3 g4 g5 a.length b.length c.length d.length z.length s q g6 n6 c6 o6 k) eM6c_ok hmN psN2c_ok (f := 19) (fn := f19) (by kernel_rfl) (by kernel_rfl) FnOrc.nil (gfn := f36) (by kernel_rfl) (by kernel_rfl) (by kernel_rfl) caughtN rfl (nR19c_ok (by
      simp only [allP, Con.h, eq_self, true_and, and_true, beq_iff_eq, beq_eq_false_iff_ne, ne_eq, decide_eq_true_eq, decide_eq_false_iff_not]
      obtain ⟨q1, q2, q3, q4, q5, q6, q7, q8⟩ := hN; omega)) nR19c_val nR19c_tab) (by simp)
    by_cases qc : k < 64
    rotate_left
    · exact small_nil2 .u8 5 (.inr rfl) (small_ofDG (R := nR19d a b c d z g1 g2 g3 g4 g5 a.length b.length c.length d.length z.length s q g6 n6 c6 o6 k) eM6c_ok hmN psN2c_ok (f := 19) (fn := f19) (by kernel_rfl) (by kernel_rfl) FnOrc.nil (gfn := f36) (by kernel_rfl) (by kernel_rfl) (by kernel_rfl) caughtN rfl (nR19d_ok (by
      simp only [allP, Con.h, eq_self, true_and, and_true, beq_iff_eq, beq_eq_false_iff_ne, ne_eq, decide_eq_true_eq, decide_eq_false_iff_not]
      obtain ⟨q1, q2, q3, q4, q5, q6, q7, q8⟩ := hN; omega)) nR19d_val nR19d_tab) (by simp)
    exact absurd ⟨hN, qa, qb, qc⟩ hR
noncomputable def nsm19 : Summary := fun args T => nsm19c args T (xsAt T 0) (xsAt T 1) (xsAt T 2) (xsAt T 3) (xsAt T 4) (gAt T 0) (gAt T 1) (gAt T 2) (gAt T 3) (gAt T 4) (lenOf ((vAt args 0).get 0)) (lenOf ((vAt args 0).get 1)) (lenOf ((vAt args 0).get 2)) (lenOf ((vAt args 0).get 4)) (lenOf ((vAt args 0).get 5)) (iOf ((vAt args 0).get 3)) (xsAt T 5) (gAt T 5) (lenOf (vAt args 1)) (capOf (vAt args 1)) (owAt T 5) (iOf (vAt args 2))
theorem nsm19_ok : SmOk prog (fun _ => none) 19 nsm19 := fun args T h => nsm19c_ok h
noncomputable def nS19 : Summary := callR nsm19 []
theorem nS19_ok : SumOk prog (fun _ => none) 19 nS19 := callR_ok nsm19_ok _
end Go.Abs

set_option linter.unusedVariables false
set_option linter.unusedSimpArgs false
set_option maxRecDepth 100000
set_option maxHeartbeats 4000000
namespace Go.Abs
open Go.Proofs Go.Proofs.Try
def kaO0 (B : List Int) : Nat := rnOLaw B 0 0 4
def kaE0 (B : List Int) : Int := rnELaw B 0 0 4
def kaO1 (B : List Int) : Nat := rvOLaw B (kaO0 B) (kaE0 B)
def kaE1 (B : List Int) : Int := rvELaw B (kaO0 B) (kaE0 B)
def kaO2 (B : List Int) : Nat := lfOLaw B (kaO1 B) (kaE1 B)
def kaE2 (B : List Int) : Int := lfELaw B (kaO1 B) (kaE1 B)
def kaO3 (B : List Int) : Nat := rvOLaw B (kaO2 B) (kaE2 B)
def kaE3 (B : List Int) : Int := rvELaw B (kaO2 B) (kaE2 B)
def kaX (B : List Int) : List Int := rvVLaw B (kaO0 B) (kaE0 B)
def kaA (B : List Int) : List Int := lfALaw B (kaO1 B) (kaE1 B)
def kaB (B : List Int) : List Int := lfBLaw B (kaO1 B) (kaE1 B)
def kaC (B : List Int) : List Int := lfCLaw B (kaO1 B) (kaE1 B)
def kaS (B : List Int) : Int := lfSLaw B (kaO1 B) (kaE1 B)
def kaD (B : List Int) : List Int := lfDLaw B (kaO1 B) (kaE1 B)
def kaZ (B : List Int) : List Int := lfZLaw B (kaO1 B) (kaE1 B)
def kaY (B : List Int) : List Int := rvVLaw B (kaO2 B) (kaE2 B)
def kaOK (B : List Int) : Prop := reLaw B (kaO3 B) (kaE3 B) = 0 ∧ RightP (kaX B) (kaA B) (kaB B) (kaC B) (kaS B) (kaD B) (kaZ B) (kaY B) ∧ pkBLaw (kaX B) (kaA B) (kaB B) (kaC B) (kaS B) (kaD B) (kaZ B) (kaY B) = B
instance (B : List Int) : Decidable (kaOK B) := by unfold kaOK; exact inferInstance
theorem nByte_inj {a b : Int} (ha : 0 ≤ a ∧ a < 256) (hb : 0 ≤ b ∧ b < 256) (h : byteOf a = byteOf b) : a = b := by
  have := congrArg UInt8.toNat h
  simp only [byteOf, UInt8.toNat_ofNat'] at this
  omega
theorem nBytes_inj : ∀ {l l' : List Int}, (∀ c ∈ l, 0 ≤ c ∧ c < 256) → (∀ c ∈ l', 0 ≤ c ∧ c < 256) → List.map byteOf l = List.map byteOf l' → l = l'
  | [], [], _, _, _ => rfl
  | [], b :: r, _, _, h => by simp at h
  | a :: r, [], _, _, h => by simp at h
  | a :: r, b :: r', h1, h2, h => by
    simp only [List.map_cons, List.cons.injEq] at h
    rw [nByte_inj (h1 a (.head _)) (h2 b (.head _)) h.1, nBytes_inj (fun c hc => h1 c (.tail _ hc)) (fun c hc => h2 c (.tail _ hc)) h.2]
end Go.Abs

set_option linter.unusedVariables false
set_option linter.unusedSimpArgs false
set_option maxRecDepth 100000
set_option maxHeartbeats 4000000
namespace Go.Abs
open Go.Proofs Go.Proofs.Try
end Go.Abs

set_option linter.unusedVariables false
set_option linter.unusedSimpArgs false
set_option maxRecDepth 100000
set_option maxHeartbeats 4000000
namespace Go.Abs
open Go.Proofs Go.Proofs.Try
end Go.Abs
