/- What functions of the given program come to, by the abstract machine: texts of a proof. -/
import Derived.Test.YtmfacmccilipfaaAbs2
import Derived.Test.YtmfacmccilipfaaProg
import Derived.KernelRfl
import Derived.RecoverIn
import Derived.TacticsIn
import Derived.Laws.Pointers
set_option linter.unusedVariables false
namespace Go.Abs
def tysN : List (Nat × Ty) := [
(1, ⟨.func, 1, 8, .nilFunc⟩),
(2, ⟨(.int .i64), 1, 8, (.int .i64 0)⟩),
(3, ⟨(.int .i64), 1, 8, (.int .i64 0)⟩),
(4, ⟨.bool, 1, 1, (.bool false)⟩),
(5, ⟨(.int .u8), 1, 1, (.int .u8 0)⟩),
(6, ⟨(.int .u8), 1, 1, (.int .u8 0)⟩),
(7, ⟨(.struct [(0, 2), (1, 3), (2, 4), (3, 6)]), 4, 24, (.agg [(.int .i64 0), (.int .i64 0), (.bool false), (.int .u8 0)])⟩),
(8, ⟨(.struct [(0, 2), (1, 3), (2, 4), (3, 6)]), 4, 24, (.agg [(.int .i64 0), (.int .i64 0), (.bool false), (.int .u8 0)])⟩),
(9, ⟨.str, 1, 16, (.str [])⟩),
(10, ⟨.str, 1, 16, (.str [])⟩),
(11, ⟨.str, 1, 16, (.str [])⟩),
(12, ⟨(.int .u64), 1, 8, (.int .u64 0)⟩),
(13, ⟨(.struct [(0, 9), (1, 12)]), 2, 24, (.agg [(.str []), (.int .u64 0)])⟩),
(14, ⟨(.struct [(0, 9), (1, 12)]), 2, 24, (.agg [(.str []), (.int .u64 0)])⟩),
(15, ⟨(.ptr 128), 1, 8, .nilPtr⟩),
(16, ⟨(.ptr 131), 1, 8, .nilPtr⟩),
(17, ⟨(.ptr 140), 1, 8, .nilPtr⟩),
(18, ⟨(.struct [(0, 17)]), 1, 8, (.agg [.nilPtr])⟩),
(19, ⟨(.struct [(0, 17)]), 1, 8, (.agg [.nilPtr])⟩),
(20, ⟨.iface, 1, 16, .nilIface⟩),
(21, ⟨(.int .i32), 1, 4, (.int .i32 0)⟩),
(22, ⟨(.slice 5), 1, 24, .nilSlice⟩),
(23, ⟨(.struct [(0, 22), (1, 22), (2, 22), (3, 3), (4, 22), (5, 22)]), 6, 128, (.agg [.nilSlice, .nilSlice, .nilSlice, (.int .i64 0), .nilSlice, .nilSlice])⟩),
(24, ⟨(.struct [(0, 22), (1, 22), (2, 22), (3, 3), (4, 22), (5, 22)]), 6, 128, (.agg [.nilSlice, .nilSlice, .nilSlice, (.int .i64 0), .nilSlice, .nilSlice])⟩),
(25, ⟨.func, 1, 8, .nilFunc⟩),
(26, ⟨(.struct [(0, 22), (1, 22), (2, 22), (3, 3), (4, 22), (5, 22)]), 6, 128, (.agg [.nilSlice, .nilSlice, .nilSlice, (.int .i64 0), .nilSlice, .nilSlice])⟩),
(27, ⟨.func, 1, 8, .nilFunc⟩),
(28, ⟨(.int .i64), 1, 8, (.int .i64 0)⟩),
(30, ⟨.func, 1, 8, .nilFunc⟩),
(32, ⟨.func, 1, 8, .nilFunc⟩),
(34, ⟨.func, 1, 8, .nilFunc⟩),
(36, ⟨.func, 1, 8, .nilFunc⟩),
(37, ⟨.func, 1, 8, .nilFunc⟩),
(38, ⟨.func, 1, 8, .nilFunc⟩),
(39, ⟨.func, 1, 8, .nilFunc⟩),
(40, ⟨.func, 1, 8, .nilFunc⟩),
(41, ⟨.func, 1, 8, .nilFunc⟩),
(42, ⟨.func, 1, 8, .nilFunc⟩),
(43, ⟨.func, 1, 8, .nilFunc⟩),
(44, ⟨(.slice 3), 1, 24, .nilSlice⟩),
(45, ⟨(.struct [(0, 22), (1, 22), (2, 44)]), 3, 72, (.agg [.nilSlice, .nilSlice, .nilSlice])⟩),
(46, ⟨(.struct [(0, 22), (1, 22), (2, 44)]), 3, 72, (.agg [.nilSlice, .nilSlice, .nilSlice])⟩),
(47, ⟨(.struct [(0, 22), (1, 22), (2, 44)]), 3, 72, (.agg [.nilSlice, .nilSlice, .nilSlice])⟩),
(48, ⟨.func, 1, 8, .nilFunc⟩),
(49, ⟨.func, 1, 8, .nilFunc⟩),
(50, ⟨.func, 1, 8, .nilFunc⟩),
(52, ⟨.func, 1, 8, .nilFunc⟩),
(54, ⟨.func, 1, 8, .nilFunc⟩),
(55, ⟨.func, 1, 8, .nilFunc⟩),
(56, ⟨.func, 1, 8, .nilFunc⟩),
(57, ⟨(.struct [(0, 22), (1, 24), (7, 22)]), 8, 176, (.agg [.nilSlice, .nilSlice, .nilSlice, .nilSlice, (.int .i64 0), .nilSlice, .nilSlice, .nilSlice])⟩),
(58, ⟨(.struct [(0, 22), (1, 24), (7, 22)]), 8, 176, (.agg [.nilSlice, .nilSlice, .nilSlice, .nilSlice, (.int .i64 0), .nilSlice, .nilSlice, .nilSlice])⟩),
(59, ⟨(.struct [(0, 22), (1, 26), (7, 22)]), 8, 176, (.agg [.nilSlice, .nilSlice, .nilSlice, .nilSlice, (.int .i64 0), .nilSlice, .nilSlice, .nilSlice])⟩),
(60, ⟨(.struct [(0, 22), (1, 26), (7, 22)]), 8, 176, (.agg [.nilSlice, .nilSlice, .nilSlice, .nilSlice, (.int .i64 0), .nilSlice, .nilSlice, .nilSlice])⟩),
(61, ⟨.func, 1, 8, .nilFunc⟩),
(62, ⟨.func, 1, 8, .nilFunc⟩),
(63, ⟨.func, 1, 8, .nilFunc⟩),
(65, ⟨.func, 1, 8, .nilFunc⟩),
(67, ⟨.func, 1, 8, .nilFunc⟩),
(68, ⟨.func, 1, 8, .nilFunc⟩),
(69, ⟨.func, 1, 8, .nilFunc⟩),
(70, ⟨.func, 1, 8, .nilFunc⟩),
(71, ⟨.func, 1, 8, .nilFunc⟩),
(72, ⟨.func, 1, 8, .nilFunc⟩),
(73, ⟨.func, 1, 8, .nilFunc⟩),
(74, ⟨(.ptr 28), 1, 8, .nilPtr⟩),
(75, ⟨(.ptr 81), 1, 8, .nilPtr⟩),
(76, ⟨.func, 1, 8, .nilFunc⟩),
(77, ⟨.func, 1, 8, .nilFunc⟩),
(78, ⟨.func, 1, 8, .nilFunc⟩),
(79, ⟨.func, 1, 8, .nilFunc⟩),
(80, ⟨(.struct [(0, 22), (1, 78), (2, 79)]), 3, 40, (.agg [.nilSlice, .nilFunc, .nilFunc])⟩),
(81, ⟨(.struct [(0, 22), (1, 78), (2, 79)]), 3, 40, (.agg [.nilSlice, .nilFunc, .nilFunc])⟩),
(82, ⟨.func, 1, 8, .nilFunc⟩),
(83, ⟨.func, 1, 8, .nilFunc⟩),
(84, ⟨(.ptr 115), 1, 8, .nilPtr⟩),
(85, ⟨.func, 1, 8, .nilFunc⟩),
(86, ⟨.func, 1, 8, .nilFunc⟩),
(87, ⟨.func, 1, 8, .nilFunc⟩),
(88, ⟨(.ptr 118), 1, 8, .nilPtr⟩),
(89, ⟨.func, 1, 8, .nilFunc⟩),
(90, ⟨.func, 1, 8, .nilFunc⟩),
(91, ⟨.func, 1, 8, .nilFunc⟩),
(92, ⟨.func, 1, 8, .nilFunc⟩),
(93, ⟨.func, 1, 8, .nilFunc⟩),
(94, ⟨.func, 1, 8, .nilFunc⟩),
(95, ⟨.func, 1, 8, .nilFunc⟩),
(96, ⟨.func, 1, 8, .nilFunc⟩),
(97, ⟨.func, 1, 8, .nilFunc⟩),
(98, ⟨.func, 1, 8, .nilFunc⟩),
(99, ⟨.func, 1, 8, .nilFunc⟩),
(100, ⟨.func, 1, 8, .nilFunc⟩),
(102, ⟨.func, 1, 8, .nilFunc⟩),
(103, ⟨.func, 1, 8, .nilFunc⟩),
(104, ⟨.func, 1, 8, .nilFunc⟩),
(105, ⟨.func, 1, 8, .nilFunc⟩),
(106, ⟨.func, 1, 8, .nilFunc⟩),
(107, ⟨.func, 1, 8, .nilFunc⟩),
(108, ⟨.func, 1, 8, .nilFunc⟩),
(109, ⟨(.slice 22), 1, 24, .nilSlice⟩),
(110, ⟨.func, 1, 8, .nilFunc⟩),
(111, ⟨.func, 1, 8, .nilFunc⟩),
(112, ⟨.func, 1, 8, .nilFunc⟩),
(113, ⟨.func, 1, 8, .nilFunc⟩),
(114, ⟨(.struct [(0, 22), (1, 28), (2, 4)]), 3, 40, (.agg [.nilSlice, (.int .i64 0), (.bool false)])⟩),
(115, ⟨(.struct [(0, 22), (1, 28), (2, 4)]), 3, 40, (.agg [.nilSlice, (.int .i64 0), (.bool false)])⟩),
(116, ⟨.func, 1, 8, .nilFunc⟩),
(117, ⟨(.struct [(0, 22), (1, 3), (2, 3)]), 3, 40, (.agg [.nilSlice, (.int .i64 0), (.int .i64 0)])⟩),
(118, ⟨(.struct [(0, 22), (1, 3), (2, 3)]), 3, 40, (.agg [.nilSlice, (.int .i64 0), (.int .i64 0)])⟩),
(119, ⟨.func, 1, 8, .nilFunc⟩),
(120, ⟨.func, 1, 8, .nilFunc⟩),
(121, ⟨.func, 1, 8, .nilFunc⟩),
(122, ⟨.func, 1, 8, .nilFunc⟩),
(123, ⟨(.int .u64), 1, 8, (.int .u64 0)⟩),
(124, ⟨.func, 1, 8, .nilFunc⟩),
(125, ⟨.func, 1, 8, .nilFunc⟩),
(126, ⟨.func, 1, 8, .nilFunc⟩),
(127, ⟨(.struct [(0, 17), (1, 17), (2, 17), (3, 9)]), 4, 40, (.agg [.nilPtr, .nilPtr, .nilPtr, (.str [])])⟩),
(128, ⟨(.struct [(0, 17), (1, 17), (2, 17), (3, 9)]), 4, 40, (.agg [.nilPtr, .nilPtr, .nilPtr, (.str [])])⟩),
(129, ⟨(.array 0 16), 0, 0, (.agg [])⟩),
(130, ⟨(.struct [(0, 129)]), 0, 0, (.agg [])⟩),
(131, ⟨(.struct [(0, 129)]), 0, 0, (.agg [])⟩),
(132, ⟨(.int .u32), 1, 4, (.int .u32 0)⟩),
(133, ⟨(.int .u8), 1, 1, (.int .u8 0)⟩),
(134, ⟨(.int .u8), 1, 1, (.int .u8 0)⟩),
(135, ⟨.func, 1, 8, .nilFunc⟩),
(136, ⟨(.ptr 5), 1, 8, .nilPtr⟩),
(137, ⟨(.int .i32), 1, 4, (.int .i32 0)⟩),
(138, ⟨(.int .i32), 1, 4, (.int .i32 0)⟩),
(139, ⟨(.struct [(0, 12), (1, 12), (2, 132), (3, 133), (4, 5), (5, 5), (6, 134), (7, 135), (8, 136), (9, 137), (10, 138)]), 11, 48, (.agg [(.int .u64 0), (.int .u64 0), (.int .u32 0), (.int .u8 0), (.int .u8 0), (.int .u8 0), (.int .u8 0), .nilFunc, .nilPtr, (.int .i32 0), (.int .i32 0)])⟩),
(140, ⟨(.struct [(0, 12), (1, 12), (2, 132), (3, 133), (4, 5), (5, 5), (6, 134), (7, 135), (8, 136), (9, 137), (10, 138)]), 11, 48, (.agg [(.int .u64 0), (.int .u64 0), (.int .u32 0), (.int .u8 0), (.int .u8 0), (.int .u8 0), (.int .u8 0), .nilFunc, .nilPtr, (.int .i32 0), (.int .i32 0)])⟩),
(141, ⟨.other, 1, 8, .nilPtr⟩)]
theorem tysN_ok : TysOk Go.Proofs.Try.prog tysN := by
  refine ⟨?_, ?_, ?_, ?_, ?_, ?_, ?_, ?_, ?_, ?_, ?_, ?_, ?_, ?_, ?_, ?_, ?_, ?_, ?_, ?_, ?_, ?_, ?_, ?_, ?_, ?_, ?_, ?_, ?_, ?_, ?_, ?_, ?_, ?_, ?_, ?_, ?_, ?_, ?_, ?_, ?_, ?_, ?_, ?_, ?_, ?_, ?_, ?_, ?_, ?_, ?_, ?_, ?_, ?_, ?_, ?_, ?_, ?_, ?_, ?_, ?_, ?_, ?_, ?_, ?_, ?_, ?_, ?_, ?_, ?_, ?_, ?_, ?_, ?_, ?_, ?_, ?_, ?_, ?_, ?_, ?_, ?_, ?_, ?_, ?_, ?_, ?_, ?_, ?_, ?_, ?_, ?_, ?_, ?_, ?_, ?_, ?_, ?_, ?_, ?_, ?_, ?_, ?_, ?_, ?_, ?_, ?_, ?_, ?_, ?_, ?_, ?_, ?_, ?_, ?_, ?_, ?_, ?_, ?_, ?_, ?_, ?_, ?_, ?_, ?_, ?_, ?_, ?_, ?_, ?_, ?_, ?_, trivial⟩ <;> kernel_rfl
noncomputable def eN0 (fns : List (Nat × Summary)) : Env := envOf Go.Proofs.Try.prog tysN fns (fun _ => none)
theorem hmN : Go.Proofs.Try.prog.follows .mixedOrders = true := by kernel_rfl
theorem eN0_ok : EnvOk (eN0 []) := envOf_ok tysN_ok trivial
end Go.Abs

set_option linter.unusedVariables false
set_option linter.unusedSimpArgs false
namespace Go.Abs
open Go.Proofs.Try
theorem und20 : prog.underlying 20 = some (.interface #[]) := by kernel_rfl
theorem und28 : prog.underlying 28 = some (.int .i64) := by kernel_rfl
theorem caught_ret (p : Value) (w : World) : CallsDIn Fence.wide 0 prog 36 #[p] .returning w fun e u' w' => e = .returned (.tuple #[]) ∧ u' = .returning ∧ w' = w := by
  refine callsDIn_of_wpSIn func36 rfl trivial fun c₀ cs hu => ?_
  apply wpSIn_seq
  apply wpSIn_region
  simp [wpOpsSIn, go_sem, recoverD, hu, ntmps36, Exit.thenS]
  apply wpSIn_seq
  apply wpSIn_region
  simp [wpOpsSIn, go_sem, recoverD, hu, ntmps36, Exit.thenS, und20, Array.replicate]
  refine wpSIn_cond (t := false) (by simp [Act.eval]) ?_
  simp only [Bool.false_eq_true, if_false]
  refine wpSIn_of_wpIn rfl (wpIn_skip ?_)
  cases c₀
  simp_all [bodyPostS, results, results36]
theorem assert28 (m : Int) (w : World) : (Instr.typeAssert (.iface 28 (.int .i64 m)) 20 28 false).run prog w = .ok (.int .i64 m) w := by
  unfold Instr.typeAssert
  simp [und28]
theorem caught_pan (a : Addr) (m : Int) (w w' : World) (h : (Instr.storeAt 28 (.pointer (some a)) (.int .i64 m)).run prog w = .ok () w') :
    CallsDIn Fence.wide 0 prog 36 #[.pointer (some a)] (.panicking [{ v := .iface 28 (.int .i64 m), recovered := false }]) w fun e u' w'' => e = .returned (.tuple #[]) ∧ u' = .panicking [{ v := .iface 28 (.int .i64 m), recovered := true }] ∧ w'' = w' := by
  refine callsDIn_of_wpSIn func36 rfl trivial fun c₀ cs hu => ?_
  apply wpSIn_seq
  apply wpSIn_region
  simp [wpOpsSIn, go_sem, recoverD, hu, ntmps36, Exit.thenS]
  apply wpSIn_seq
  apply wpSIn_region
  simp [wpOpsSIn, go_sem, recoverD, hu, ntmps36, Exit.thenS, und20, Array.replicate]
  refine wpSIn_cond (t := true) (by simp [Act.eval]) ?_
  simp only [if_true]
  apply wpSIn_region
  simp [wpOpsSIn, go_sem, bodyPostS, results, results36, assert28]
  simp [go_sem] at h
  simp [h]
theorem caughtN : CaughtOk prog 36 28 .i64 := ⟨caught_ret, caught_pan⟩
end Go.Abs

set_option linter.unusedVariables false
set_option linter.unusedSimpArgs false
set_option maxRecDepth 8000
namespace Go.Abs
open Go.Proofs.Try
noncomputable def S35 : Summary := sumI modeO (eN0 []) f78 [] 100 [] []
theorem S35_ok : SumOk prog (fun _ => none) 78 S35 := sumI_ok eN0_ok hmN (fn := f78) (by kernel_rfl) (by kernel_rfl) [] FnOrc.nil 100 [] []
noncomputable def S44 : Summary := sumI modeO (eN0 []) f74 [] 100 [] []
theorem S44_ok : SumOk prog (fun _ => none) 74 S44 := sumI_ok eN0_ok hmN (fn := f74) (by kernel_rfl) (by kernel_rfl) [] FnOrc.nil 100 [] []
noncomputable def S39 : Summary := sumI modeO (eN0 []) f82 [] 100 [] []
theorem S39_ok : SumOk prog (fun _ => none) 82 S39 := sumI_ok eN0_ok hmN (fn := f82) (by kernel_rfl) (by kernel_rfl) [] FnOrc.nil 100 [] []
noncomputable def S40 : Summary := sumI modeO (eN0 []) f90 [] 400 [] []
theorem S40_ok : SumOk prog (fun _ => none) 90 S40 := sumI_ok eN0_ok hmN (fn := f90) (by kernel_rfl) (by kernel_rfl) [] FnOrc.nil 400 [] []
noncomputable def S45 : Summary := sumI modeO (eN0 []) f83 [] 400 [] []
theorem S45_ok : SumOk prog (fun _ => none) 83 S45 := sumI_ok eN0_ok hmN (fn := f83) (by kernel_rfl) (by kernel_rfl) [] FnOrc.nil 400 [] []
noncomputable def eC1 : Env := eN0 [(78, S35), (74, S44), (82, S39), (90, S40), (83, S45)]
theorem eC1_ok : EnvOk eC1 := envOf_ok tysN_ok (SumsOk.cons (fn := f78) S35_ok (by kernel_rfl) (by kernel_rfl) (by kernel_rfl) (SumsOk.cons (fn := f74) S44_ok (by kernel_rfl) (by kernel_rfl) (by kernel_rfl) (SumsOk.cons (fn := f82) S39_ok (by kernel_rfl) (by kernel_rfl) (by kernel_rfl) (SumsOk.cons (fn := f90) S40_ok (by kernel_rfl) (by kernel_rfl) (by kernel_rfl) (SumsOk.cons (fn := f83) S45_ok (by kernel_rfl) (by kernel_rfl) (by kernel_rfl) trivial)))))
end Go.Abs

set_option linter.unusedVariables false
set_option linter.unusedSimpArgs false
set_option maxRecDepth 8000
namespace Go.Abs
open Go.Proofs.Try
end Go.Abs

set_option linter.unusedVariables false
set_option linter.unusedSimpArgs false
set_option maxRecDepth 8000
namespace Go.Abs
open Go.Proofs.Try
end Go.Abs

set_option linter.unusedVariables false
set_option linter.unusedSimpArgs false
set_option maxRecDepth 8000
namespace Go.Abs
open Go.Proofs.Try
/-! ### numbers as bytes: of the program -/
noncomputable def S39x : Summary := sumI modeO (eN0 []) f82 [] 100 [some false, some false, some false, some false] []
theorem S39x_ok : SumOk prog (fun _ => none) 82 S39x := sumI_ok eN0_ok hmN (fn := f82) (by kernel_rfl) (by kernel_rfl) [] FnOrc.nil 100 [some false, some false, some false, some false] []
noncomputable def eC1x : Env := eN0 [(82, S39x), (90, S40)]
theorem eC1x_ok : EnvOk eC1x := envOf_ok tysN_ok (SumsOk.cons (fn := f82) S39x_ok (by kernel_rfl) (by kernel_rfl) (by kernel_rfl) (SumsOk.cons (fn := f90) S40_ok (by kernel_rfl) (by kernel_rfl) (by kernel_rfl) trivial))
noncomputable def R16x (n size : Int) : Res := runF eC1x f73 [] 400 [.int .i64 n, .int .i64 size] [] []
theorem R16x_ok {n size : Int} (h : allP [.p ((size == 1) = false), .p ((size == 2) = false), .p ((size == 4) = false), .p ((size == 8) = false)]) : OkR (R16x n size) := OkR.dem (fl := [false, false, false, false]) (by kernel_rfl) (by kernel_rfl) (by kernel_rfl) h
theorem R16x_val {n size : Int} : (R16x n size).val = .tuple [.nilSlice, .int .i64 1] := by kernel_rfl
theorem R16x_tab {n size : Int} : (R16x n size).tab = [] := by kernel_rfl
noncomputable def R16_1 (n : Int) : Res := runF eC1 f73 [] 400 [.int .i64 n, .int .i64 1] [] [none, some false, some false]
theorem R16_1_ok {n : Int} (h : allP [.p (decide (n < 0) = false), .p ((n / 256 != 0) = false)]) : OkR (R16_1 n) := OkR.dem (fl := bitsF 20 1048565) (by kernel_rfl) (by kernel_rfl) (by kernel_rfl) h
theorem R16_1_val {n : Int} : (R16_1 n).val = .tuple [.slice 1 0 0 0 1 (some 1), .int .i64 0] := by kernel_rfl
theorem R16_1_tab {n : Int} : (R16_1 n).tab = [some ⟨.ints .u8 [n / 1 % 256], 0, true, 5⟩] := by kernel_rfl
noncomputable def R16_2 (n : Int) : Res := runF eC1 f73 [] 400 [.int .i64 n, .int .i64 2] [] [none, some false, some false]
theorem R16_2_ok {n : Int} (h : allP [.p (decide (n < 0) = false), .p ((n / 65536 != 0) = false)]) : OkR (R16_2 n) := OkR.dem (fl := bitsF 32 4294967285) (by kernel_rfl) (by kernel_rfl) (by kernel_rfl) h
theorem R16_2_val {n : Int} : (R16_2 n).val = .tuple [.slice 1 0 0 0 2 (some 2), .int .i64 0] := by kernel_rfl
theorem R16_2_tab {n : Int} : (R16_2 n).tab = [some ⟨.ints .u8 [n / 256 % 256, n / 1 % 256], 0, true, 5⟩] := by kernel_rfl
noncomputable def R16_4 (n : Int) : Res := runF eC1 f73 [] 400 [.int .i64 n, .int .i64 4] [] [none, some false, some false]
theorem R16_4_ok {n : Int} (h : allP [.p (decide (n < 0) = false), .p ((n / 4294967296 != 0) = false)]) : OkR (R16_4 n) := OkR.dem (fl := bitsF 56 72057594037927925) (by kernel_rfl) (by kernel_rfl) (by kernel_rfl) h
theorem R16_4_val {n : Int} : (R16_4 n).val = .tuple [.slice 1 0 0 0 4 (some 4), .int .i64 0] := by kernel_rfl
theorem R16_4_tab {n : Int} : (R16_4 n).tab = [some ⟨.ints .u8 [n / 16777216 % 256, n / 65536 % 256, n / 256 % 256, n / 1 % 256], 0, true, 5⟩] := by kernel_rfl
noncomputable def R16_8 (n : Int) : Res := runF eC1 f73 [] 400 [.int .i64 n, .int .i64 8] [] [none, some false, some false]
theorem R16_8_ok {n : Int} (h : allP [.p (decide (n < 0) = false), .p ((n / 4611686018427387904 != 0) = false)]) : OkR (R16_8 n) := OkR.dem (fl := bitsF 103 10141204801825835211973625643002) (by kernel_rfl) (by kernel_rfl) (by kernel_rfl) h
theorem R16_8_val {n : Int} : (R16_8 n).val = .tuple [.slice 1 0 0 0 8 (some 8), .int .i64 0] := by kernel_rfl
theorem R16_8_tab {n : Int} : (R16_8 n).tab = [some ⟨.ints .u8 [n / 72057594037927936 % 256, n / 281474976710656 % 256, n / 1099511627776 % 256, n / 4294967296 % 256, n / 16777216 % 256, n / 65536 % 256, n / 256 % 256, n / 1 % 256], 0, true, 5⟩] := by kernel_rfl
noncomputable def R16n_1 (n : Int) : Res := runF eC1 f73 [] 400 [.int .i64 n, .int .i64 1] [] [none, some true]
theorem R16n_1_ok {n : Int} (h : allP [.p (decide (n < 0) = true)]) : OkR (R16n_1 n) := OkR.dem (fl := [true, false]) (by kernel_rfl) (by kernel_rfl) (by kernel_rfl) h
theorem R16n_1_val {n : Int} : (R16n_1 n).val = .tuple [.nilSlice, .int .i64 11] := by kernel_rfl
theorem R16n_1_tab {n : Int} : (R16n_1 n).tab = [] := by kernel_rfl
noncomputable def R16n_2 (n : Int) : Res := runF eC1 f73 [] 400 [.int .i64 n, .int .i64 2] [] [none, some true]
theorem R16n_2_ok {n : Int} (h : allP [.p (decide (n < 0) = true)]) : OkR (R16n_2 n) := OkR.dem (fl := [true, false]) (by kernel_rfl) (by kernel_rfl) (by kernel_rfl) h
theorem R16n_2_val {n : Int} : (R16n_2 n).val = .tuple [.nilSlice, .int .i64 11] := by kernel_rfl
theorem R16n_2_tab {n : Int} : (R16n_2 n).tab = [] := by kernel_rfl
noncomputable def R16n_4 (n : Int) : Res := runF eC1 f73 [] 400 [.int .i64 n, .int .i64 4] [] [none, some true]
theorem R16n_4_ok {n : Int} (h : allP [.p (decide (n < 0) = true)]) : OkR (R16n_4 n) := OkR.dem (fl := [true, false]) (by kernel_rfl) (by kernel_rfl) (by kernel_rfl) h
theorem R16n_4_val {n : Int} : (R16n_4 n).val = .tuple [.nilSlice, .int .i64 11] := by kernel_rfl
theorem R16n_4_tab {n : Int} : (R16n_4 n).tab = [] := by kernel_rfl
noncomputable def R16n_8 (n : Int) : Res := runF eC1 f73 [] 400 [.int .i64 n, .int .i64 8] [] [none, some true]
theorem R16n_8_ok {n : Int} (h : allP [.p (decide (n < 0) = true)]) : OkR (R16n_8 n) := OkR.dem (fl := [false]) (by kernel_rfl) (by kernel_rfl) (by kernel_rfl) h
theorem R16n_8_val {n : Int} : (R16n_8 n).val = .tuple [.nilSlice, .int .i64 11] := by kernel_rfl
theorem R16n_8_tab {n : Int} : (R16n_8 n).tab = [] := by kernel_rfl
noncomputable def R16g_1 (n : Int) : Res := runF eC1 f73 [] 400 [.int .i64 n, .int .i64 1] [] [none, some false, some true]
theorem R16g_1_ok {n : Int} (h : allP [.p (decide (n < 0) = false), .p ((n / 256 != 0) = true)]) : OkR (R16g_1 n) := OkR.dem (fl := [true, false, true, false]) (by kernel_rfl) (by kernel_rfl) (by kernel_rfl) h
theorem R16g_1_val {n : Int} : (R16g_1 n).val = .tuple [.nilSlice, .int .i64 11] := by kernel_rfl
theorem R16g_1_tab {n : Int} : (R16g_1 n).tab = [] := by kernel_rfl
noncomputable def R16g_2 (n : Int) : Res := runF eC1 f73 [] 400 [.int .i64 n, .int .i64 2] [] [none, some false, some true]
theorem R16g_2_ok {n : Int} (h : allP [.p (decide (n < 0) = false), .p ((n / 65536 != 0) = true)]) : OkR (R16g_2 n) := OkR.dem (fl := [true, false, true, false]) (by kernel_rfl) (by kernel_rfl) (by kernel_rfl) h
theorem R16g_2_val {n : Int} : (R16g_2 n).val = .tuple [.nilSlice, .int .i64 11] := by kernel_rfl
theorem R16g_2_tab {n : Int} : (R16g_2 n).tab = [] := by kernel_rfl
noncomputable def R16g_4 (n : Int) : Res := runF eC1 f73 [] 400 [.int .i64 n, .int .i64 4] [] [none, some false, some true]
theorem R16g_4_ok {n : Int} (h : allP [.p (decide (n < 0) = false), .p ((n / 4294967296 != 0) = true)]) : OkR (R16g_4 n) := OkR.dem (fl := [true, false, true, false]) (by kernel_rfl) (by kernel_rfl) (by kernel_rfl) h
theorem R16g_4_val {n : Int} : (R16g_4 n).val = .tuple [.nilSlice, .int .i64 11] := by kernel_rfl
theorem R16g_4_tab {n : Int} : (R16g_4 n).tab = [] := by kernel_rfl
noncomputable def R16g_8 (n : Int) : Res := runF eC1 f73 [] 400 [.int .i64 n, .int .i64 8] [] [none, some false, some true]
theorem R16g_8_ok {n : Int} (h : allP [.p (decide (n < 0) = false), .p ((n / 4611686018427387904 != 0) = true)]) : OkR (R16g_8 n) := OkR.dem (fl := [false, true, false]) (by kernel_rfl) (by kernel_rfl) (by kernel_rfl) h
theorem R16g_8_val {n : Int} : (R16g_8 n).val = .tuple [.nilSlice, .int .i64 11] := by kernel_rfl
theorem R16g_8_tab {n : Int} : (R16g_8 n).tab = [] := by kernel_rfl
end Go.Abs

set_option linter.unusedVariables false
set_option linter.unusedSimpArgs false
set_option maxRecDepth 8000
namespace Go.Abs
open Go.Proofs.Try
def beLaw (n : Int) (size : Nat) : List Int := (List.range size).map fun j => n / 2 ^ (8 * (size - 1 - j)) % 256
def mostLaw (size : Int) : Int := if size = 1 then 256 else if size = 2 then 65536 else if size = 4 then 4294967296 else 4611686018427387904
def sizedLaw (size : Int) : Prop := size = 1 ∨ size = 2 ∨ size = 4 ∨ size = 8
instance (size : Int) : Decidable (sizedLaw size) := by unfold sizedLaw; exact inferInstance
def numLaw (n size : Int) : List Int := if sizedLaw size ∧ 0 ≤ n ∧ n < mostLaw size then beLaw n size.toNat else []
def numErrLaw (n size : Int) : Int := if sizedLaw size then (if 0 ≤ n ∧ n < mostLaw size then 0 else 11) else 1
theorem num_in {n size : Int} (hs : sizedLaw size) (h : 0 ≤ n ∧ n < mostLaw size) : numLaw n size = beLaw n size.toNat ∧ numErrLaw n size = 0 := by
  unfold numLaw numErrLaw; rw [if_pos ⟨hs, h⟩, if_pos hs, if_pos h]; exact ⟨rfl, rfl⟩
theorem num_out {n size : Int} (hs : sizedLaw size) (h : ¬ (0 ≤ n ∧ n < mostLaw size)) : numLaw n size = [] ∧ numErrLaw n size = 11 := by
  unfold numLaw numErrLaw; rw [if_neg (fun x => h x.2), if_pos hs, if_neg h]; exact ⟨rfl, rfl⟩
theorem num_bad {n size : Int} (hs : ¬ sizedLaw size) : numLaw n size = [] ∧ numErrLaw n size = 1 := by
  unfold numLaw numErrLaw; rw [if_neg (fun x => hs x.1), if_neg hs]; exact ⟨rfl, rfl⟩
def num16Law (n size : Int) : AVal := .tuple [.slice 1 0 0 0 (numLaw n size).length (some (numLaw n size).length), .int .i64 (numErrLaw n size)]
theorem bad16 {n size : Int} (hs : ¬ sizedLaw size) : Small prog (fun _ => none) 73 [.int .i64 n, .int .i64 size] [] (num16Law n size) [some ⟨.ints .u8 (numLaw n size), 0, true, 5⟩] := by
  unfold num16Law
  rw [(num_bad hs).1, (num_bad hs).2]
  unfold sizedLaw at hs
  exact small_nil2 .u8 5 (.inl rfl) (small_of (R := R16x n size) eC1x_ok hmN (f := 73) (fn := f73) (by kernel_rfl) (by kernel_rfl) FnOrc.nil rfl (R16x_ok (by simp [allP, Con.h]; omega)) R16x_val R16x_tab) (Nat.le_refl 0)

theorem in16_1 {n : Int} (h : 0 ≤ n ∧ n < 256) : Small prog (fun _ => none) 73 [.int .i64 n, .int .i64 1] [] (num16Law n 1) [some ⟨.ints .u8 (numLaw n 1), 0, true, 5⟩] := by
  have hm : 0 ≤ n ∧ n < mostLaw 1 := h
  have e := num_in (n := n) (size := 1) (by decide) hm
  unfold num16Law
  rw [e.1, e.2]
  have eb : beLaw n (Int.toNat 1) = [n / 1 % 256] := by kernel_rfl
  rw [eb]
  have hd : n / 256 = 0 := by omega
  exact small_of (R := R16_1 n) eC1_ok hmN (f := 73) (fn := f73) (by kernel_rfl) (by kernel_rfl) FnOrc.nil rfl (R16_1_ok (by simp [allP, Con.h, hd]; omega)) R16_1_val R16_1_tab
theorem out16_1 {n : Int} (h : ¬ (0 ≤ n ∧ n < 256)) : Small prog (fun _ => none) 73 [.int .i64 n, .int .i64 1] [] (num16Law n 1) [some ⟨.ints .u8 (numLaw n 1), 0, true, 5⟩] := by
  have hm : ¬ (0 ≤ n ∧ n < mostLaw 1) := h
  have e := num_out (n := n) (size := 1) (by decide) hm
  unfold num16Law
  rw [e.1, e.2]
  by_cases h0 : n < 0
  · exact small_nil2 .u8 5 (.inl rfl) (small_of (R := R16n_1 n) eC1_ok hmN (f := 73) (fn := f73) (by kernel_rfl) (by kernel_rfl) FnOrc.nil rfl (R16n_1_ok (by simp [allP, Con.h]; omega)) R16n_1_val R16n_1_tab) (Nat.le_refl 0)
  · have hd : n / 256 ≠ 0 := by omega
    exact small_nil2 .u8 5 (.inl rfl) (small_of (R := R16g_1 n) eC1_ok hmN (f := 73) (fn := f73) (by kernel_rfl) (by kernel_rfl) FnOrc.nil rfl (R16g_1_ok (by simp [allP, Con.h, hd]; omega)) R16g_1_val R16g_1_tab) (Nat.le_refl 0)
theorem in16_2 {n : Int} (h : 0 ≤ n ∧ n < 65536) : Small prog (fun _ => none) 73 [.int .i64 n, .int .i64 2] [] (num16Law n 2) [some ⟨.ints .u8 (numLaw n 2), 0, true, 5⟩] := by
  have hm : 0 ≤ n ∧ n < mostLaw 2 := h
  have e := num_in (n := n) (size := 2) (by decide) hm
  unfold num16Law
  rw [e.1, e.2]
  have eb : beLaw n (Int.toNat 2) = [n / 256 % 256, n / 1 % 256] := by kernel_rfl
  rw [eb]
  have hd : n / 65536 = 0 := by omega
  exact small_of (R := R16_2 n) eC1_ok hmN (f := 73) (fn := f73) (by kernel_rfl) (by kernel_rfl) FnOrc.nil rfl (R16_2_ok (by simp [allP, Con.h, hd]; omega)) R16_2_val R16_2_tab
theorem out16_2 {n : Int} (h : ¬ (0 ≤ n ∧ n < 65536)) : Small prog (fun _ => none) 73 [.int .i64 n, .int .i64 2] [] (num16Law n 2) [some ⟨.ints .u8 (numLaw n 2), 0, true, 5⟩] := by
  have hm : ¬ (0 ≤ n ∧ n < mostLaw 2) := h
  have e := num_out (n := n) (size := 2) (by decide) hm
  unfold num16Law
  rw [e.1, e.2]
  by_cases h0 : n < 0
  · exact small_nil2 .u8 5 (.inl rfl) (small_of (R := R16n_2 n) eC1_ok hmN (f := 73) (fn := f73) (by kernel_rfl) (by kernel_rfl) FnOrc.nil rfl (R16n_2_ok (by simp [allP, Con.h]; omega)) R16n_2_val R16n_2_tab) (Nat.le_refl 0)
  · have hd : n / 65536 ≠ 0 := by omega
    exact small_nil2 .u8 5 (.inl rfl) (small_of (R := R16g_2 n) eC1_ok hmN (f := 73) (fn := f73) (by kernel_rfl) (by kernel_rfl) FnOrc.nil rfl (R16g_2_ok (by simp [allP, Con.h, hd]; omega)) R16g_2_val R16g_2_tab) (Nat.le_refl 0)
theorem in16_4 {n : Int} (h : 0 ≤ n ∧ n < 4294967296) : Small prog (fun _ => none) 73 [.int .i64 n, .int .i64 4] [] (num16Law n 4) [some ⟨.ints .u8 (numLaw n 4), 0, true, 5⟩] := by
  have hm : 0 ≤ n ∧ n < mostLaw 4 := h
  have e := num_in (n := n) (size := 4) (by decide) hm
  unfold num16Law
  rw [e.1, e.2]
  have eb : beLaw n (Int.toNat 4) = [n / 16777216 % 256, n / 65536 % 256, n / 256 % 256, n / 1 % 256] := by kernel_rfl
  rw [eb]
  have hd : n / 4294967296 = 0 := by omega
  exact small_of (R := R16_4 n) eC1_ok hmN (f := 73) (fn := f73) (by kernel_rfl) (by kernel_rfl) FnOrc.nil rfl (R16_4_ok (by simp [allP, Con.h, hd]; omega)) R16_4_val R16_4_tab
theorem out16_4 {n : Int} (h : ¬ (0 ≤ n ∧ n < 4294967296)) : Small prog (fun _ => none) 73 [.int .i64 n, .int .i64 4] [] (num16Law n 4) [some ⟨.ints .u8 (numLaw n 4), 0, true, 5⟩] := by
  have hm : ¬ (0 ≤ n ∧ n < mostLaw 4) := h
  have e := num_out (n := n) (size := 4) (by decide) hm
  unfold num16Law
  rw [e.1, e.2]
  by_cases h0 : n < 0
  · exact small_nil2 .u8 5 (.inl rfl) (small_of (R := R16n_4 n) eC1_ok hmN (f := 73) (fn := f73) (by kernel_rfl) (by kernel_rfl) FnOrc.nil rfl (R16n_4_ok (by simp [allP, Con.h]; omega)) R16n_4_val R16n_4_tab) (Nat.le_refl 0)
  · have hd : n / 4294967296 ≠ 0 := by omega
    exact small_nil2 .u8 5 (.inl rfl) (small_of (R := R16g_4 n) eC1_ok hmN (f := 73) (fn := f73) (by kernel_rfl) (by kernel_rfl) FnOrc.nil rfl (R16g_4_ok (by simp [allP, Con.h, hd]; omega)) R16g_4_val R16g_4_tab) (Nat.le_refl 0)
theorem in16_8 {n : Int} (h : 0 ≤ n ∧ n < 4611686018427387904) : Small prog (fun _ => none) 73 [.int .i64 n, .int .i64 8] [] (num16Law n 8) [some ⟨.ints .u8 (numLaw n 8), 0, true, 5⟩] := by
  have hm : 0 ≤ n ∧ n < mostLaw 8 := h
  have e := num_in (n := n) (size := 8) (by decide) hm
  unfold num16Law
  rw [e.1, e.2]
  have eb : beLaw n (Int.toNat 8) = [n / 72057594037927936 % 256, n / 281474976710656 % 256, n / 1099511627776 % 256, n / 4294967296 % 256, n / 16777216 % 256, n / 65536 % 256, n / 256 % 256, n / 1 % 256] := by kernel_rfl
  rw [eb]
  have hd : n / 4611686018427387904 = 0 := by omega
  exact small_of (R := R16_8 n) eC1_ok hmN (f := 73) (fn := f73) (by kernel_rfl) (by kernel_rfl) FnOrc.nil rfl (R16_8_ok (by simp [allP, Con.h, hd]; omega)) R16_8_val R16_8_tab
theorem out16_8 {n : Int} (h : ¬ (0 ≤ n ∧ n < 4611686018427387904)) : Small prog (fun _ => none) 73 [.int .i64 n, .int .i64 8] [] (num16Law n 8) [some ⟨.ints .u8 (numLaw n 8), 0, true, 5⟩] := by
  have hm : ¬ (0 ≤ n ∧ n < mostLaw 8) := h
  have e := num_out (n := n) (size := 8) (by decide) hm
  unfold num16Law
  rw [e.1, e.2]
  by_cases h0 : n < 0
  · exact small_nil2 .u8 5 (.inl rfl) (small_of (R := R16n_8 n) eC1_ok hmN (f := 73) (fn := f73) (by kernel_rfl) (by kernel_rfl) FnOrc.nil rfl (R16n_8_ok (by simp [allP, Con.h]; omega)) R16n_8_val R16n_8_tab) (Nat.le_refl 0)
  · have hd : n / 4611686018427387904 ≠ 0 := by omega
    exact small_nil2 .u8 5 (.inl rfl) (small_of (R := R16g_8 n) eC1_ok hmN (f := 73) (fn := f73) (by kernel_rfl) (by kernel_rfl) FnOrc.nil rfl (R16g_8_ok (by simp [allP, Con.h, hd]; omega)) R16g_8_val R16g_8_tab) (Nat.le_refl 0)
def sm16 : Summary := fun args T => match args, T with
  | [.int .i64 n, .int .i64 size], [] => ⟨[], num16Law n size, [some ⟨.ints .u8 (numLaw n size), 0, true, 5⟩]⟩
  | _, _ => fail
theorem sm16_ok : SmOk prog (fun _ => none) 73 sm16 := by
  intro args T hc
  unfold sm16 at hc ⊢
  split at hc
  · rename_i n size
    by_cases hs : sizedLaw size
    · rcases hs with rfl | rfl | rfl | rfl
      · by_cases h : 0 ≤ n ∧ n < 256
        · exact in16_1 h
        · exact out16_1 h
      · by_cases h : 0 ≤ n ∧ n < 65536
        · exact in16_2 h
        · exact out16_2 h
      · by_cases h : 0 ≤ n ∧ n < 4294967296
        · exact in16_4 h
        · exact out16_4 h
      · by_cases h : 0 ≤ n ∧ n < 4611686018427387904
        · exact in16_8 h
        · exact out16_8 h
    · exact bad16 hs
  · exact absurd hc nofail
def S16 : Summary := callR sm16 []
theorem S16_ok : SumOk prog (fun _ => none) 73 S16 := callR_ok sm16_ok []
end Go.Abs

set_option linter.unusedVariables false
set_option linter.unusedSimpArgs false
set_option maxRecDepth 8000
namespace Go.Abs
open Go.Proofs.Try
/-! ### lengths -/
def lenLaw (n : Int) : List Int :=
  if n < 0 ∨ 1073741824 ≤ n then [] else if n < 64 then [n / 1 % 256] else if n < 16384 then [(n + 16384) / 256 % 256, (n + 16384) / 1 % 256]
  else [(n + 2147483648) / 16777216 % 256, (n + 2147483648) / 65536 % 256, (n + 2147483648) / 256 % 256, (n + 2147483648) / 1 % 256]
def lenErrLaw (n : Int) : Int := if n < 0 ∨ 1073741824 ≤ n then 11 else 0
theorem ior_add {a b : Int} {k : Nat} (ha : 0 ≤ a) (hk : a < 2 ^ k) (hb : 0 ≤ b) : ior a (b * 2 ^ k) = a + b * 2 ^ k := by
  obtain ⟨m, rfl⟩ := Int.eq_ofNat_of_zero_le ha
  obtain ⟨c, rfl⟩ := Int.eq_ofNat_of_zero_le hb
  have hm : m < 2 ^ k := by exact_mod_cast hk
  have e : ((c : Int) * 2 ^ k).toNat = c <<< k := by rw [Nat.shiftLeft_eq]; exact_mod_cast Int.toNat_natCast _
  unfold ior
  rw [e, Int.toNat_natCast, Nat.or_comm, ← Nat.shiftLeft_add_eq_or_of_lt hm, Nat.shiftLeft_eq]
  push_cast
  omega
noncomputable def R18a (n : Int) : Res := runF eC1 f89 [] 400 [.int .i64 n] [] [none, some true, some true]
theorem R18a_ok {n : Int} (h : allP [.p (decide (0 ≤ n) = true), .p ((n / 64 == 0) = true), .nn .i64 n]) : OkR (R18a n) := OkR.dem (fl := bitsF 29 536868795) (by kernel_rfl) (by kernel_rfl) (by kernel_rfl) h
theorem R18a_val {n : Int} : (R18a n).val = .tuple [.slice 1 0 0 0 1 (some 1), .int .i64 0] := by kernel_rfl
theorem R18a_tab {n : Int} : (R18a n).tab = [some ⟨.ints .u8 [ior n 0 / 1 % 256], 0, true, 5⟩] := by kernel_rfl
noncomputable def R18b (n : Int) : Res := runF eC1 f89 [] 400 [.int .i64 n] [] [none, some true, some false, none, some true, some true]
theorem R18b_ok {n : Int} (h : allP [.p (decide (0 ≤ n) = true), .p ((n / 64 == 0) = false), .p (decide (0 ≤ n) = true), .p ((n / 16384 == 0) = true), .nn .i64 n]) : OkR (R18b n) := OkR.dem (fl := bitsF 49 562949952879547) (by kernel_rfl) (by kernel_rfl) (by kernel_rfl) h
theorem R18b_val {n : Int} : (R18b n).val = .tuple [.slice 1 0 0 0 2 (some 2), .int .i64 0] := by kernel_rfl
theorem R18b_tab {n : Int} : (R18b n).tab = [some ⟨.ints .u8 [ior n 16384 / 256 % 256, ior n 16384 / 1 % 256], 0, true, 5⟩] := by kernel_rfl
noncomputable def R18c (n : Int) : Res := runF eC1 f89 [] 400 [.int .i64 n] [] [none, some true, some false, none, some true, some false, none, some true, some true]
theorem R18c_ok {n : Int} (h : allP [.p (decide (0 ≤ n) = true), .p ((n / 64 == 0) = false), .p (decide (0 ≤ n) = true), .p ((n / 16384 == 0) = false), .p (decide (0 ≤ n) = true), .p ((n / 1073741824 == 0) = true), .nn .i64 n]) : OkR (R18c n) := OkR.dem (fl := bitsF 81 2417851639229258210720699) (by kernel_rfl) (by kernel_rfl) (by kernel_rfl) h
theorem R18c_val {n : Int} : (R18c n).val = .tuple [.slice 1 0 0 0 4 (some 4), .int .i64 0] := by kernel_rfl
theorem R18c_tab {n : Int} : (R18c n).tab = [some ⟨.ints .u8 [ior n 2147483648 / 16777216 % 256, ior n 2147483648 / 65536 % 256, ior n 2147483648 / 256 % 256, ior n 2147483648 / 1 % 256], 0, true, 5⟩] := by kernel_rfl
noncomputable def R18d (n : Int) : Res := runF eC1 f89 [] 400 [.int .i64 n] [] [none, some false, none, some false, none, some false]
theorem R18d_ok {n : Int} (h : allP [.p (decide (0 ≤ n) = false), .p (decide (0 ≤ n) = false), .p (decide (0 ≤ n) = false)]) : OkR (R18d n) := OkR.dem (fl := bitsF 12 3003) (by kernel_rfl) (by kernel_rfl) (by kernel_rfl) h
theorem R18d_val {n : Int} : (R18d n).val = .tuple [.nilSlice, .int .i64 11] := by kernel_rfl
theorem R18d_tab {n : Int} : (R18d n).tab = [] := by kernel_rfl
noncomputable def R18e (n : Int) : Res := runF eC1 f89 [] 400 [.int .i64 n] [] [none, some true, some false, none, some true, some false, none, some true, some false]
theorem R18e_ok {n : Int} (h : allP [.p (decide (0 ≤ n) = true), .p ((n / 64 == 0) = false), .p (decide (0 ≤ n) = true), .p ((n / 16384 == 0) = false), .p (decide (0 ≤ n) = true), .p ((n / 1073741824 == 0) = false)]) : OkR (R18e n) := OkR.dem (fl := bitsF 24 12303291) (by kernel_rfl) (by kernel_rfl) (by kernel_rfl) h
theorem R18e_val {n : Int} : (R18e n).val = .tuple [.nilSlice, .int .i64 11] := by kernel_rfl
theorem R18e_tab {n : Int} : (R18e n).tab = [] := by kernel_rfl
end Go.Abs

set_option linter.unusedVariables false
set_option linter.unusedSimpArgs false
set_option maxRecDepth 8000
namespace Go.Abs
open Go.Proofs.Try
theorem ior_64 {n : Int} (h : 0 ≤ n) : ior n 0 = n := by
  obtain ⟨m, rfl⟩ := Int.eq_ofNat_of_zero_le h
  simp [ior]
theorem ior_16384 {n : Int} (h : 0 ≤ n) (h2 : n < 16384) : ior n 16384 = n + 16384 := ior_add (k := 14) (b := 1) h h2 (by decide)
theorem ior_31 {n : Int} (h : 0 ≤ n) (h2 : n < 1073741824) : ior n 2147483648 = n + 2147483648 := ior_add (k := 30) (b := 2) h h2 (by decide)
theorem len_a {n : Int} (h : 0 ≤ n) (h2 : n < 64) : lenLaw n = [n / 1 % 256] ∧ lenErrLaw n = 0 := by
  unfold lenLaw lenErrLaw; rw [if_neg (by omega), if_pos h2, if_neg (by omega)]; exact ⟨rfl, rfl⟩
theorem len_b {n : Int} (h : 64 ≤ n) (h2 : n < 16384) : lenLaw n = [(n + 16384) / 256 % 256, (n + 16384) / 1 % 256] ∧ lenErrLaw n = 0 := by
  unfold lenLaw lenErrLaw; rw [if_neg (by omega), if_neg (by omega), if_pos h2, if_neg (by omega)]; exact ⟨rfl, rfl⟩
theorem len_c {n : Int} (h : 16384 ≤ n) (h2 : n < 1073741824) : lenLaw n = [(n + 2147483648) / 16777216 % 256, (n + 2147483648) / 65536 % 256, (n + 2147483648) / 256 % 256, (n + 2147483648) / 1 % 256] ∧ lenErrLaw n = 0 := by
  unfold lenLaw lenErrLaw; rw [if_neg (by omega), if_neg (by omega), if_neg (by omega), if_neg (by omega)]; exact ⟨rfl, rfl⟩
theorem len_d {n : Int} (h : n < 0 ∨ 1073741824 ≤ n) : lenLaw n = [] ∧ lenErrLaw n = 11 := by
  unfold lenLaw lenErrLaw; rw [if_pos h, if_pos h]; exact ⟨rfl, rfl⟩
theorem lenLaw_len (n : Int) : (lenLaw n).length ≤ 4 := by
  unfold lenLaw; split
  · simp
  · split
    · simp
    · split <;> simp
def len18Law (n : Int) : AVal := .tuple [.slice 1 0 0 0 (lenLaw n).length (some (lenLaw n).length), .int .i64 (lenErrLaw n)]
def sm18 : Summary := fun args T => match args, T with
  | [.int .i64 n], [] => ⟨[], len18Law n, [some ⟨.ints .u8 (lenLaw n), 0, true, 5⟩]⟩
  | _, _ => fail
theorem nn_i64 {n : Int} (h : 0 ≤ n) (h2 : n < 1073741824) : nonneg .i64 n := ⟨h, by omega⟩
theorem sm18_ok : SmOk prog (fun _ => none) 89 sm18 := by
  intro args T hc
  unfold sm18 at hc ⊢
  split at hc
  · rename_i n
    simp only
    unfold len18Law
    by_cases h0 : n < 0
    · rw [(len_d (.inl h0)).1, (len_d (.inl h0)).2]
      exact small_nil2 .u8 5 (.inl rfl) (small_of (R := R18d n) eC1_ok hmN (f := 89) (fn := f89) (by kernel_rfl) (by kernel_rfl) FnOrc.nil rfl (R18d_ok (by simp [allP, Con.h]; omega)) R18d_val R18d_tab) (Nat.le_refl 0)
    by_cases h1 : 1073741824 ≤ n
    · rw [(len_d (.inr h1)).1, (len_d (.inr h1)).2]
      have d1 : n / 64 ≠ 0 := by omega
      have d2 : n / 16384 ≠ 0 := by omega
      have d3 : n / 1073741824 ≠ 0 := by omega
      exact small_nil2 .u8 5 (.inl rfl) (small_of (R := R18e n) eC1_ok hmN (f := 89) (fn := f89) (by kernel_rfl) (by kernel_rfl) FnOrc.nil rfl (R18e_ok (by simp [allP, Con.h, d1, d2, d3]; omega)) R18e_val R18e_tab) (Nat.le_refl 0)
    have hn := nn_i64 (n := n) (by omega) (by omega)
    by_cases h2 : n < 64
    · have e := len_a (n := n) (by omega) h2
      rw [e.1, e.2]
      have d1 : n / 64 = 0 := by omega
      exact small_of (R := R18a n) eC1_ok hmN (f := 89) (fn := f89) (by kernel_rfl) (by kernel_rfl) FnOrc.nil rfl (R18a_ok (by simp [allP, Con.h, d1, hn]; omega)) R18a_val (by rw [R18a_tab, ior_64 (by omega)])
    by_cases h3 : n < 16384
    · have e := len_b (n := n) (by omega) h3
      rw [e.1, e.2]
      have d1 : n / 64 ≠ 0 := by omega
      have d2 : n / 16384 = 0 := by omega
      exact small_of (R := R18b n) eC1_ok hmN (f := 89) (fn := f89) (by kernel_rfl) (by kernel_rfl) FnOrc.nil rfl (R18b_ok (by simp [allP, Con.h, d1, d2, hn]; omega)) R18b_val (by rw [R18b_tab, ior_16384 (by omega) h3])
    · have e := len_c (n := n) (by omega) (by omega)
      rw [e.1, e.2]
      have d1 : n / 64 ≠ 0 := by omega
      have d2 : n / 16384 ≠ 0 := by omega
      have d3 : n / 1073741824 = 0 := by omega
      exact small_of (R := R18c n) eC1_ok hmN (f := 89) (fn := f89) (by kernel_rfl) (by kernel_rfl) FnOrc.nil rfl (R18c_ok (by simp [allP, Con.h, d1, d2, d3, hn]; omega)) R18c_val (by rw [R18c_tab, ior_31 (by omega) (by omega)])
  · exact absurd hc nofail
def S18c : Summary := callR sm18 []
theorem S18c_ok : SumOk prog (fun _ => none) 89 S18c := callR_ok sm18_ok []
end Go.Abs

set_option linter.unusedVariables false
set_option linter.unusedSimpArgs false
set_option maxRecDepth 8000
namespace Go.Abs
open Go.Proofs.Try
def subLaw (zs : List Int) (off n : Nat) : List Int := (zs.drop off).take n
theorem subLaw_len {zs : List Int} {off n : Nat} (h : off + n ≤ zs.length) : (subLaw zs off n).length = n := by simp [subLaw]; omega
end Go.Abs

set_option linter.unusedVariables false
set_option linter.unusedSimpArgs false
set_option maxRecDepth 100000
set_option maxHeartbeats 4000000
namespace Go.Abs
open Go.Proofs Go.Proofs.Try
/-! ### a reader's number of so many bytes -/
def ByLaw (zs : List Int) : Prop := ∀ i, 0 ≤ zs.getD i 0 ∧ zs.getD i 0 < 256
def beN : Nat → List Int → Nat → Int
  | 0, _, _ => 0
  | k + 1, B, off => beN k B off * 256 + B.getD (off + k) 0
def numAtLaw (k : Nat) (B : List Int) (off : Nat) : Int := beN k B off
def LowLaw (B : List Int) (off : Nat) (size : Int) : Prop := size = 8 → B.getD off 0 < 64
theorem ior_low {a b : Int} (ha : 0 ≤ a) (h0 : 0 ≤ b) (h1 : b < 256) : ior (a * 256) b = a * 256 + b := by
  obtain ⟨n, rfl⟩ := Int.eq_ofNat_of_zero_le ha
  obtain ⟨m, rfl⟩ := Int.eq_ofNat_of_zero_le h0
  unfold ior
  rw [show ((n : Int) * 256).toNat = n * 256 by omega, Int.toNat_natCast]
  have := Nat.shiftLeft_add_eq_or_of_lt (i := 8) (b := m) (by omega) n
  rw [Nat.shiftLeft_eq] at this
  rw [show (256 : Nat) = 2 ^ 8 by rfl, ← this]
  omega
theorem ior_zero {b : Int} (h0 : 0 ≤ b) : ior 0 b = b := by
  unfold ior
  simp
  omega
noncomputable def R45_1 (B : List Int) (g gR off len : Nat) (e : Int) : Res := runF (eN0 []) f83 [] 400 [.var 0 gR, .int .i64 1] [some ⟨.agg [.slice 1 1 g off len none, .int .i64 e, .bool true], gR, false, 115⟩, some ⟨.ints .u8 B, g, false, 5⟩] []
theorem R45_1_ok {B : List Int} {g gR off len : Nat} {e : Int} (h : allP [.eqN gR gR, .eqN gR gR, .eqN gR gR, .eqN g g, .orN 1 len (off + 1) B.length, .eqN g g, .eqN g g, .eqN g g, .leN (addO (addO off 0) 0 + 1) B.length, .rng (-9223372036854775808) (B.getD (addO (addO off 0) 0) 0) 9223372036854775807, .nn .i64 (B.getD (addO (addO off 0) 0) 0)]) : OkR (R45_1 B g gR off len e) := OkR.dem (fl :=
 bitsF 20 707672) (by kernel_rfl) (by kernel_rfl) (by kernel_rfl) h
theorem R45_1_val {B : List Int} {g gR off len : Nat} {e : Int} : (R45_1 B g gR off len e).val = .int .i64 (ior 0 (B.getD (addO (addO off 0) 0) 0)) := by kernel_rfl
theorem R45_1_tab {B : List Int} {g gR off len : Nat} {e : Int} : (R45_1 B g gR off len e).tab = [some ⟨.agg [.slice 1 1 g off len none, .int .i64 e, .bool true], gR, false, 115⟩, some ⟨.ints .u8 B, g, false, 5⟩] := by kernel_rfl
noncomputable def R45_2 (B : List Int) (g gR off len : Nat) (e : Int) : Res := runF (eN0 []) f83 [] 400 [.var 0 gR, .int .i64 2] [some ⟨.agg [.slice 1 1 g off len none, .int .i64 e, .bool true], gR, false, 115⟩, some ⟨.ints .u8 B, g, false, 5⟩] []
theorem R45_2_ok {B : List Int} {g gR off len : Nat} {e : Int} (h : allP [.eqN gR gR, .eqN gR gR, .eqN gR gR, .eqN g g, .orN 2 len (off + 2) B.length, .eqN g g, .eqN g g, .eqN g g, .leN (addO (addO off 0) 0 + 1) B.length, .rng (-9223372036854775808) (B.getD (addO (addO off 0) 0) 0) 9223372036854775807, .nn .i64 (B.getD (addO (addO off 0) 0) 0), .eqN g g, .eqN g g, .leN (addO (addO off 0) 1 + 1)
 B.length, .rng (-9223372036854775808) (ior 0 (B.getD (addO (addO off 0) 0) 0) * 256) 9223372036854775807, .rng (-9223372036854775808) (B.getD (addO (addO off 0) 1) 0) 9223372036854775807, .nn .i64 (ior 0 (B.getD (addO (addO off 0) 0) 0) * 256), .nn .i64 (B.getD (addO (addO off 0) 1) 0)]) : OkR (R45_2 B g gR off len e) := OkR.dem (fl := bitsF 31 1114295384) (by kernel_rfl) (by kernel_rfl) (by
 kernel_rfl) h
theorem R45_2_val {B : List Int} {g gR off len : Nat} {e : Int} : (R45_2 B g gR off len e).val = .int .i64 (ior (ior 0 (B.getD (addO (addO off 0) 0) 0) * 256) (B.getD (addO (addO off 0) 1) 0)) := by kernel_rfl
theorem R45_2_tab {B : List Int} {g gR off len : Nat} {e : Int} : (R45_2 B g gR off len e).tab = [some ⟨.agg [.slice 1 1 g off len none, .int .i64 e, .bool true], gR, false, 115⟩, some ⟨.ints .u8 B, g, false, 5⟩] := by kernel_rfl
noncomputable def R45_4 (B : List Int) (g gR off len : Nat) (e : Int) : Res := runF (eN0 []) f83 [] 400 [.var 0 gR, .int .i64 4] [some ⟨.agg [.slice 1 1 g off len none, .int .i64 e, .bool true], gR, false, 115⟩, some ⟨.ints .u8 B, g, false, 5⟩] []
theorem R45_4_ok {B : List Int} {g gR off len : Nat} {e : Int} (h : allP [.eqN gR gR, .eqN gR gR, .eqN gR gR, .eqN g g, .orN 4 len (off + 4) B.length, .eqN g g, .eqN g g, .eqN g g, .leN (addO (addO off 0) 0 + 1) B.length, .rng (-9223372036854775808) (B.getD (addO (addO off 0) 0) 0) 9223372036854775807, .nn .i64 (B.getD (addO (addO off 0) 0) 0), .eqN g g, .eqN g g, .leN (addO (addO off 0) 1 + 1)
 B.length, .rng (-9223372036854775808) (ior 0 (B.getD (addO (addO off 0) 0) 0) * 256) 9223372036854775807, .rng (-9223372036854775808) (B.getD (addO (addO off 0) 1) 0) 9223372036854775807, .nn .i64 (ior 0 (B.getD (addO (addO off 0) 0) 0) * 256), .nn .i64 (B.getD (addO (addO off 0) 1) 0), .eqN g g, .eqN g g, .leN (addO (addO off 0) 2 + 1) B.length, .rng (-9223372036854775808) (ior (ior 0 (B.getD
 (addO (addO off 0) 0) 0) * 256) (B.getD (addO (addO off 0) 1) 0) * 256) 9223372036854775807, .rng (-9223372036854775808) (B.getD (addO (addO off 0) 2) 0) 9223372036854775807, .nn .i64 (ior (ior 0 (B.getD (addO (addO off 0) 0) 0) * 256) (B.getD (addO (addO off 0) 1) 0) * 256), .nn .i64 (B.getD (addO (addO off 0) 2) 0), .eqN g g, .eqN g g, .leN (addO (addO off 0) 3 + 1) B.length, .rng
 (-9223372036854775808) (ior (ior (ior 0 (B.getD (addO (addO off 0) 0) 0) * 256) (B.getD (addO (addO off 0) 1) 0) * 256) (B.getD (addO (addO off 0) 2) 0) * 256) 9223372036854775807, .rng (-9223372036854775808) (B.getD (addO (addO off 0) 3) 0) 9223372036854775807, .nn .i64 (ior (ior (ior 0 (B.getD (addO (addO off 0) 0) 0) * 256) (B.getD (addO (addO off 0) 1) 0) * 256) (B.getD (addO (addO off 0) 2) 0)
 * 256), .nn .i64 (B.getD (addO (addO off 0) 3) 0)]) : OkR (R45_4 B g gR off len e) := OkR.dem (fl := bitsF 53 4673007136722008) (by kernel_rfl) (by kernel_rfl) (by kernel_rfl) h
theorem R45_4_val {B : List Int} {g gR off len : Nat} {e : Int} : (R45_4 B g gR off len e).val = .int .i64 (ior (ior (ior (ior 0 (B.getD (addO (addO off 0) 0) 0) * 256) (B.getD (addO (addO off 0) 1) 0) * 256) (B.getD (addO (addO off 0) 2) 0) * 256) (B.getD (addO (addO off 0) 3) 0)) := by kernel_rfl
theorem R45_4_tab {B : List Int} {g gR off len : Nat} {e : Int} : (R45_4 B g gR off len e).tab = [some ⟨.agg [.slice 1 1 g off len none, .int .i64 e, .bool true], gR, false, 115⟩, some ⟨.ints .u8 B, g, false, 5⟩] := by kernel_rfl
noncomputable def R45_8 (B : List Int) (g gR off len : Nat) (e : Int) : Res := runF (eN0 []) f83 [] 400 [.var 0 gR, .int .i64 8] [some ⟨.agg [.slice 1 1 g off len none, .int .i64 e, .bool true], gR, false, 115⟩, some ⟨.ints .u8 B, g, false, 5⟩] []
theorem R45_8_ok {B : List Int} {g gR off len : Nat} {e : Int} (h : allP [.eqN gR gR, .eqN gR gR, .eqN gR gR, .eqN g g, .orN 8 len (off + 8) B.length, .eqN g g, .eqN g g, .eqN g g, .leN (addO (addO off 0) 0 + 1) B.length, .rng (-9223372036854775808) (B.getD (addO (addO off 0) 0) 0) 9223372036854775807, .nn .i64 (B.getD (addO (addO off 0) 0) 0), .eqN g g, .eqN g g, .leN (addO (addO off 0) 1 + 1)
 B.length, .rng (-9223372036854775808) (ior 0 (B.getD (addO (addO off 0) 0) 0) * 256) 9223372036854775807, .rng (-9223372036854775808) (B.getD (addO (addO off 0) 1) 0) 9223372036854775807, .nn .i64 (ior 0 (B.getD (addO (addO off 0) 0) 0) * 256), .nn .i64 (B.getD (addO (addO off 0) 1) 0), .eqN g g, .eqN g g, .leN (addO (addO off 0) 2 + 1) B.length, .rng (-9223372036854775808) (ior (ior 0 (B.getD
 (addO (addO off 0) 0) 0) * 256) (B.getD (addO (addO off 0) 1) 0) * 256) 9223372036854775807, .rng (-9223372036854775808) (B.getD (addO (addO off 0) 2) 0) 9223372036854775807, .nn .i64 (ior (ior 0 (B.getD (addO (addO off 0) 0) 0) * 256) (B.getD (addO (addO off 0) 1) 0) * 256), .nn .i64 (B.getD (addO (addO off 0) 2) 0), .eqN g g, .eqN g g, .leN (addO (addO off 0) 3 + 1) B.length, .rng
 (-9223372036854775808) (ior (ior (ior 0 (B.getD (addO (addO off 0) 0) 0) * 256) (B.getD (addO (addO off 0) 1) 0) * 256) (B.getD (addO (addO off 0) 2) 0) * 256) 9223372036854775807, .rng (-9223372036854775808) (B.getD (addO (addO off 0) 3) 0) 9223372036854775807, .nn .i64 (ior (ior (ior 0 (B.getD (addO (addO off 0) 0) 0) * 256) (B.getD (addO (addO off 0) 1) 0) * 256) (B.getD (addO (addO off 0) 2) 0)
 * 256), .nn .i64 (B.getD (addO (addO off 0) 3) 0), .eqN g g, .eqN g g, .leN (addO (addO off 0) 4 + 1) B.length, .rng (-9223372036854775808) (ior (ior (ior (ior 0 (B.getD (addO (addO off 0) 0) 0) * 256) (B.getD (addO (addO off 0) 1) 0) * 256) (B.getD (addO (addO off 0) 2) 0) * 256) (B.getD (addO (addO off 0) 3) 0) * 256) 9223372036854775807, .rng (-9223372036854775808) (B.getD (addO (addO off 0) 4)
 0) 9223372036854775807, .nn .i64 (ior (ior (ior (ior 0 (B.getD (addO (addO off 0) 0) 0) * 256) (B.getD (addO (addO off 0) 1) 0) * 256) (B.getD (addO (addO off 0) 2) 0) * 256) (B.getD (addO (addO off 0) 3) 0) * 256), .nn .i64 (B.getD (addO (addO off 0) 4) 0), .eqN g g, .eqN g g, .leN (addO (addO off 0) 5 + 1) B.length, .rng (-9223372036854775808) (ior (ior (ior (ior (ior 0 (B.getD (addO (addO off 0)
 0) 0) * 256) (B.getD (addO (addO off 0) 1) 0) * 256) (B.getD (addO (addO off 0) 2) 0) * 256) (B.getD (addO (addO off 0) 3) 0) * 256) (B.getD (addO (addO off 0) 4) 0) * 256) 9223372036854775807, .rng (-9223372036854775808) (B.getD (addO (addO off 0) 5) 0) 9223372036854775807, .nn .i64 (ior (ior (ior (ior (ior 0 (B.getD (addO (addO off 0) 0) 0) * 256) (B.getD (addO (addO off 0) 1) 0) * 256) (B.getD
 (addO (addO off 0) 2) 0) * 256) (B.getD (addO (addO off 0) 3) 0) * 256) (B.getD (addO (addO off 0) 4) 0) * 256), .nn .i64 (B.getD (addO (addO off 0) 5) 0), .eqN g g, .eqN g g, .leN (addO (addO off 0) 6 + 1) B.length, .rng (-9223372036854775808) (ior (ior (ior (ior (ior (ior 0 (B.getD (addO (addO off 0) 0) 0) * 256) (B.getD (addO (addO off 0) 1) 0) * 256) (B.getD (addO (addO off 0) 2) 0) * 256)
 (B.getD (addO (addO off 0) 3) 0) * 256) (B.getD (addO (addO off 0) 4) 0) * 256) (B.getD (addO (addO off 0) 5) 0) * 256) 9223372036854775807, .rng (-9223372036854775808) (B.getD (addO (addO off 0) 6) 0) 9223372036854775807, .nn .i64 (ior (ior (ior (ior (ior (ior 0 (B.getD (addO (addO off 0) 0) 0) * 256) (B.getD (addO (addO off 0) 1) 0) * 256) (B.getD (addO (addO off 0) 2) 0) * 256) (B.getD (addO
 (addO off 0) 3) 0) * 256) (B.getD (addO (addO off 0) 4) 0) * 256) (B.getD (addO (addO off 0) 5) 0) * 256), .nn .i64 (B.getD (addO (addO off 0) 6) 0), .eqN g g, .eqN g g, .leN (addO (addO off 0) 7 + 1) B.length, .rng (-9223372036854775808) (ior (ior (ior (ior (ior (ior (ior 0 (B.getD (addO (addO off 0) 0) 0) * 256) (B.getD (addO (addO off 0) 1) 0) * 256) (B.getD (addO (addO off 0) 2) 0) * 256)
 (B.getD (addO (addO off 0) 3) 0) * 256) (B.getD (addO (addO off 0) 4) 0) * 256) (B.getD (addO (addO off 0) 5) 0) * 256) (B.getD (addO (addO off 0) 6) 0) * 256) 9223372036854775807, .rng (-9223372036854775808) (B.getD (addO (addO off 0) 7) 0) 9223372036854775807, .nn .i64 (ior (ior (ior (ior (ior (ior (ior 0 (B.getD (addO (addO off 0) 0) 0) * 256) (B.getD (addO (addO off 0) 1) 0) * 256) (B.getD
 (addO (addO off 0) 2) 0) * 256) (B.getD (addO (addO off 0) 3) 0) * 256) (B.getD (addO (addO off 0) 4) 0) * 256) (B.getD (addO (addO off 0) 5) 0) * 256) (B.getD (addO (addO off 0) 6) 0) * 256), .nn .i64 (B.getD (addO (addO off 0) 7) 0)]) : OkR (R45_8 B g gR off len e) := OkR.dem (fl := bitsF 97 82208410933218101147380403288) (by kernel_rfl) (by kernel_rfl) (by kernel_rfl) h
theorem R45_8_val {B : List Int} {g gR off len : Nat} {e : Int} : (R45_8 B g gR off len e).val = .int .i64 (ior (ior (ior (ior (ior (ior (ior (ior 0 (B.getD (addO (addO off 0) 0) 0) * 256) (B.getD (addO (addO off 0) 1) 0) * 256) (B.getD (addO (addO off 0) 2) 0) * 256) (B.getD (addO (addO off 0) 3) 0) * 256) (B.getD (addO (addO off 0) 4) 0) * 256) (B.getD (addO (addO off 0) 5) 0) * 256) (B.getD
 (addO (addO off 0) 6) 0) * 256) (B.getD (addO (addO off 0) 7) 0)) := by kernel_rfl
theorem R45_8_tab {B : List Int} {g gR off len : Nat} {e : Int} : (R45_8 B g gR off len e).tab = [some ⟨.agg [.slice 1 1 g off len none, .int .i64 e, .bool true], gR, false, 115⟩, some ⟨.ints .u8 B, g, false, 5⟩] := by kernel_rfl
end Go.Abs

set_option linter.unusedVariables false
set_option linter.unusedSimpArgs false
set_option maxRecDepth 100000
set_option maxHeartbeats 4000000
namespace Go.Abs
open Go.Proofs Go.Proofs.Try
theorem beN_rng {B : List Int} (h : ByLaw B) (off : Nat) : ∀ k : Nat, 0 ≤ beN k B off ∧ beN k B off < 256 ^ k
  | 0 => ⟨Int.le_refl 0, by show (0 : Int) < 256 ^ 0; decide⟩
  | k + 1 => by
    have h1 := beN_rng h off k
    have h2 := h (off + k)
    unfold beN
    rw [Int.pow_succ]
    omega
theorem beN_low {B : List Int} (h : ByLaw B) {off : Nat} (h0 : B.getD off 0 < 64) : ∀ k : Nat, beN (k + 1) B off < 64 * 256 ^ k
  | 0 => by unfold beN beN; simpa using h0
  | k + 1 => by
    have h1 := beN_low h h0 k
    have h2 := h (off + (k + 1))
    rw [beN, Int.pow_succ]
    omega
theorem be_step {B : List Int} (h : ByLaw B) (off k : Nat) : ior (beN k B off * 256) (B.getD (off + k) 0) = beN (k + 1) B off := by
  have h2 := h (off + k)
  rw [ior_low (beN_rng h off k).1 h2.1 h2.2]
  rfl
theorem be_one {B : List Int} (h : ByLaw B) (off : Nat) : ior 0 (B.getD off 0) = beN 1 B off := by
  rw [ior_zero (h off).1]
  unfold beN beN
  rw [Nat.add_zero, Int.zero_mul, Int.zero_add]
noncomputable def sm45c (args : List AVal) (T : Tab) (B : List Int) (g : Nat) (gR : Nat) (off : Nat) (len : Nat) (e : Int) (size : Int) : Res := ⟨[.tab T [some ⟨.agg [.slice 1 1 g off len none, .int .i64 e, .bool true], gR, false, 115⟩, some ⟨.ints .u8 B, g, false, 5⟩], .val (.tuple args) (.tuple [.var 0 gR, .int .i64 size]), .p (sizedLaw size), .leN size.toNat len, .leN (off + len) B.length, .p (ByLaw B), .p (LowLaw B off size)], .int .i64 (numAtLaw size.toNat B off), [some ⟨.agg [.slice 1 1 g off len none, .int .i64 e, .bool true], gR, false, 115⟩, some ⟨.ints .u8 B, g, false, 5⟩]⟩
theorem sm45c_ok {args : List AVal} {T : Tab} {B : List Int} {g : Nat} {gR : Nat} {off : Nat} {len : Nat} {e : Int} {size : Int} (h : allP (sm45c args T B g gR off len e size).cs) : Small prog (fun _ => none) 83 args T (sm45c args T B g gR off len e size).val (sm45c args T B g gR off len e size).tab := by
  obtain ⟨hT, hv, h1, h2, h3, h4, h5, _⟩ := h
  simp only [Con.h] at hT hv h1 h2 h3 h4 h5
  injection hv with hv
  subst hT hv
  show Small prog (fun _ => none) 83 [.var 0 gR, .int .i64 size] [some ⟨.agg [.slice 1 1 g off len none, .int .i64 e, .bool true], gR, false, 115⟩, some ⟨.ints .u8 B, g, false, 5⟩] (.int .i64 (numAtLaw size.toNat B off)) [some ⟨.agg [.slice 1 1 g off len none, .int .i64 e, .bool true], gR, false, 115⟩, some ⟨.ints .u8 B, g, false, 5⟩]
  have hs : size = 1 ∨ size = 2 ∨ size = 4 ∨ size = 8 := h1
  have hb : ByLaw B := h4
  have hq : LowLaw B off size := h5
  rcases hs with rfl | rfl | rfl | rfl
  · have s0 := be_one hb off
    refine small_of (R := R45_1 B g gR off len e) eN0_ok hmN (f := 83) (fn := f83) (by kernel_rfl) (by kernel_rfl) FnOrc.nil rfl (R45_1_ok ?_) (by rw [R45_1_val]; simp only [addO_eq, Nat.add_zero, s0]; rfl) R45_1_tab
    have b0 := beN_rng hb off 0
    have c0 := hb (off + 0)
    simp only [Nat.add_zero] at c0
    simp only [Int.reducePow, Int.reduceMul] at *
    simp only [allP, Con.h, nonneg, addO_eq, Nat.add_zero, s0, eq_self, true_and, and_true]
    omega
  · have s0 := be_one hb off
    have s1 : ior (beN 1 B off * 256) (B.getD (off + 1) 0) = beN 2 B off := be_step hb off 1
    refine small_of (R := R45_2 B g gR off len e) eN0_ok hmN (f := 83) (fn := f83) (by kernel_rfl) (by kernel_rfl) FnOrc.nil rfl (R45_2_ok ?_) (by rw [R45_2_val]; simp only [addO_eq, Nat.add_zero, s0, s1]; rfl) R45_2_tab
    have b0 := beN_rng hb off 0
    have c0 := hb (off + 0)
    have b1 := beN_rng hb off 1
    have c1 := hb (off + 1)
    simp only [Nat.add_zero] at c0
    simp only [Int.reducePow, Int.reduceMul] at *
    simp only [allP, Con.h, nonneg, addO_eq, Nat.add_zero, s0, s1, eq_self, true_and, and_true]
    omega
  · have s0 := be_one hb off
    have s1 : ior (beN 1 B off * 256) (B.getD (off + 1) 0) = beN 2 B off := be_step hb off 1
    have s2 : ior (beN 2 B off * 256) (B.getD (off + 2) 0) = beN 3 B off := be_step hb off 2
    have s3 : ior (beN 3 B off * 256) (B.getD (off + 3) 0) = beN 4 B off := be_step hb off 3
    refine small_of (R := R45_4 B g gR off len e) eN0_ok hmN (f := 83) (fn := f83) (by kernel_rfl) (by kernel_rfl) FnOrc.nil rfl (R45_4_ok ?_) (by rw [R45_4_val]; simp only [addO_eq, Nat.add_zero, s0, s1, s2, s3]; rfl) R45_4_tab
    have b0 := beN_rng hb off 0
    have c0 := hb (off + 0)
    have b1 := beN_rng hb off 1
    have c1 := hb (off + 1)
    have b2 := beN_rng hb off 2
    have c2 := hb (off + 2)
    have b3 := beN_rng hb off 3
    have c3 := hb (off + 3)
    simp only [Nat.add_zero] at c0
    simp only [Int.reducePow, Int.reduceMul] at *
    simp only [allP, Con.h, nonneg, addO_eq, Nat.add_zero, s0, s1, s2, s3, eq_self, true_and, and_true]
    omega
  · have s0 := be_one hb off
    have s1 : ior (beN 1 B off * 256) (B.getD (off + 1) 0) = beN 2 B off := be_step hb off 1
    have s2 : ior (beN 2 B off * 256) (B.getD (off + 2) 0) = beN 3 B off := be_step hb off 2
    have s3 : ior (beN 3 B off * 256) (B.getD (off + 3) 0) = beN 4 B off := be_step hb off 3
    have s4 : ior (beN 4 B off * 256) (B.getD (off + 4) 0) = beN 5 B off := be_step hb off 4
    have s5 : ior (beN 5 B off * 256) (B.getD (off + 5) 0) = beN 6 B off := be_step hb off 5
    have s6 : ior (beN 6 B off * 256) (B.getD (off + 6) 0) = beN 7 B off := be_step hb off 6
    have s7 : ior (beN 7 B off * 256) (B.getD (off + 7) 0) = beN 8 B off := be_step hb off 7
    refine small_of (R := R45_8 B g gR off len e) eN0_ok hmN (f := 83) (fn := f83) (by kernel_rfl) (by kernel_rfl) FnOrc.nil rfl (R45_8_ok ?_) (by rw [R45_8_val]; simp only [addO_eq, Nat.add_zero, s0, s1, s2, s3, s4, s5, s6, s7]; rfl) R45_8_tab
    have b0 := beN_rng hb off 0
    have c0 := hb (off + 0)
    have b1 := beN_rng hb off 1
    have c1 := hb (off + 1)
    have b2 := beN_rng hb off 2
    have c2 := hb (off + 2)
    have b3 := beN_rng hb off 3
    have c3 := hb (off + 3)
    have b4 := beN_rng hb off 4
    have c4 := hb (off + 4)
    have b5 := beN_rng hb off 5
    have c5 := hb (off + 5)
    have b6 := beN_rng hb off 6
    have c6 := hb (off + 6)
    have b7 := beN_rng hb off 7
    have c7 := hb (off + 7)
    have l0 : beN 1 B off < 64 * 256 ^ 0 := beN_low hb (hq rfl) 0
    have l1 : beN 2 B off < 64 * 256 ^ 1 := beN_low hb (hq rfl) 1
    have l2 : beN 3 B off < 64 * 256 ^ 2 := beN_low hb (hq rfl) 2
    have l3 : beN 4 B off < 64 * 256 ^ 3 := beN_low hb (hq rfl) 3
    have l4 : beN 5 B off < 64 * 256 ^ 4 := beN_low hb (hq rfl) 4
    have l5 : beN 6 B off < 64 * 256 ^ 5 := beN_low hb (hq rfl) 5
    have l6 : beN 7 B off < 64 * 256 ^ 6 := beN_low hb (hq rfl) 6
    simp only [Nat.add_zero] at c0
    simp only [Int.reducePow, Int.reduceMul] at *
    simp only [allP, Con.h, nonneg, addO_eq, Nat.add_zero, s0, s1, s2, s3, s4, s5, s6, s7, eq_self, true_and, and_true]
    omega
noncomputable def sm45 : Summary := fun args T => sm45c args T (xsAt T 1) (gAt T 1) (gAt T 0) (offOf (cAt T 0 0)) (lenOf (cAt T 0 0)) (iOf (cAt T 0 1)) (iOf (vAt args 1))
theorem sm45_ok : SmOk prog (fun _ => none) 83 sm45 := fun args T h => sm45c_ok h
end Go.Abs

set_option linter.unusedVariables false
set_option linter.unusedSimpArgs false
set_option maxRecDepth 100000
set_option maxHeartbeats 4000000
namespace Go.Abs
open Go.Proofs Go.Proofs.Try
/-! ### the reader: Number -/
noncomputable def S45r : Summary := callR sm45 []
theorem S45r_ok : SumOk prog (fun _ => none) 83 S45r := callR_ok sm45_ok []
noncomputable def eR1 : Env := eN0 [(78, S35), (82, S39), (83, S45r)]
theorem eR1_ok : EnvOk eR1 := envOf_ok tysN_ok (SumsOk.cons (fn := f78) S35_ok (by kernel_rfl) (by kernel_rfl) (by kernel_rfl) (SumsOk.cons (fn := f82) S39_ok (by kernel_rfl) (by kernel_rfl) (by kernel_rfl) (SumsOk.cons (fn := f83) S45r_ok (by kernel_rfl) (by kernel_rfl) (by kernel_rfl) trivial)))
noncomputable def eR1x : Env := eN0 [(78, S35), (82, S39x)]
theorem eR1x_ok : EnvOk eR1x := envOf_ok tysN_ok (SumsOk.cons (fn := f78) S35_ok (by kernel_rfl) (by kernel_rfl) (by kernel_rfl) (SumsOk.cons (fn := f82) S39x_ok (by kernel_rfl) (by kernel_rfl) (by kernel_rfl) trivial))
noncomputable def R25e (B : List Int) (g gR off n : Nat) (e size : Int) : Res := runF eR1 f54 [] 400 [.var 0 gR, .int .i64 size] [some ⟨.agg [.slice 1 1 g off n none, .int .i64 e, .bool true], gR, true, 115⟩, some ⟨.ints .u8 B, g, false, 5⟩] [some true]
theorem R25e_ok {B : List Int} {g gR off n : Nat} {e size : Int} (h : allP [.eqN gR gR, .eqN g g, .eqN gR gR, .eqN gR gR, .eqN gR gR, .eqN gR gR, .eqN gR gR, .eqN gR gR, .eqN gR gR, .p ((e != 0) = true)]) : OkR (R25e B g gR off n e size) := OkR.dem (fl := bitsF 12 1088) (by kernel_rfl) (by kernel_rfl) (by kernel_rfl) h
theorem R25e_val {B : List Int} {g gR off n : Nat} {e size : Int} : (R25e B g gR off n e size).val = .int .i64 0 := by kernel_rfl
theorem R25e_tab {B : List Int} {g gR off n : Nat} {e size : Int} : (R25e B g gR off n e size).tab = [some ⟨.agg [.slice 1 1 g off n none, .int .i64 e, .bool true], gR, true, 115⟩, some ⟨.ints .u8 B, g, false, 5⟩] := by kernel_rfl
noncomputable def R25x (B : List Int) (g gR off n : Nat) (size : Int) : Res := runF eR1x f54 [] 400 [.var 0 gR, .int .i64 size] [some ⟨.agg [.slice 1 1 g off n none, .int .i64 0, .bool true], gR, true, 115⟩, some ⟨.ints .u8 B, g, false, 5⟩] [none, none]
theorem R25x_ok {B : List Int} {g gR off n : Nat} {size : Int} (h : allP [.eqN gR gR, .eqN g g, .eqN gR gR, .eqN gR gR, .eqN gR gR, .eqN gR gR, .eqN gR gR, .eqN gR gR, .eqN gR gR, .p ((size == 1) = false), .p ((size == 2) = false), .p ((size == 4) = false), .p ((size == 8) = false), .eqN gR gR, .eqN gR gR, .eqN gR gR]) : OkR (R25x B g gR off n size) := OkR.dem (fl := bitsF 21 1836096) (by
 kernel_rfl) (by kernel_rfl) (by kernel_rfl) h
theorem R25x_val {B : List Int} {g gR off n : Nat} {size : Int} : (R25x B g gR off n size).val = .int .i64 0 := by kernel_rfl
theorem R25x_tab {B : List Int} {g gR off n : Nat} {size : Int} : (R25x B g gR off n size).tab = [some ⟨.agg [.slice 1 1 g off n none, .int .i64 1, .bool true], gR, true, 115⟩, some ⟨.ints .u8 B, g, false, 5⟩] := by kernel_rfl
noncomputable def R25s1 (B : List Int) (g gR off n : Nat) : Res := runF eR1 f54 [] 400 [.var 0 gR, .int .i64 1] [some ⟨.agg [.slice 1 1 g off n none, .int .i64 0, .bool true], gR, true, 115⟩, some ⟨.ints .u8 B, g, false, 5⟩] [none, none, some true]
theorem R25s1_ok {B : List Int} {g gR off n : Nat} (h : allP [.eqN gR gR, .eqN g g, .eqN gR gR, .eqN gR gR, .eqN gR gR, .eqN gR gR, .eqN gR gR, .eqN gR gR, .eqN gR gR, .eqN gR gR, .eqN gR gR, .eqN gR gR, .eqN g g, .p (decide ((↑n : Int) < 1) = true), .eqN gR gR, .eqN gR gR, .eqN gR gR]) : OkR (R25s1 B g gR off n) := OkR.dem (fl := bitsF 24 14715968) (by kernel_rfl) (by kernel_rfl) (by kernel_rfl) h
theorem R25s1_val {B : List Int} {g gR off n : Nat} : (R25s1 B g gR off n).val = .int .i64 0 := by kernel_rfl
theorem R25s1_tab {B : List Int} {g gR off n : Nat} : (R25s1 B g gR off n).tab = [some ⟨.agg [.slice 1 1 g off n none, .int .i64 20, .bool true], gR, true, 115⟩, some ⟨.ints .u8 B, g, false, 5⟩] := by kernel_rfl
noncomputable def R25g1 (B : List Int) (g gR off n : Nat) : Res := runF eR1 f54 [] 400 [.var 0 gR, .int .i64 1] [some ⟨.agg [.slice 1 1 g off n none, .int .i64 0, .bool true], gR, true, 115⟩, some ⟨.ints .u8 B, g, false, 5⟩] [none, none, some false, none]
theorem R25g1_ok {B : List Int} {g gR off n : Nat} (h : allP [.eqN gR gR, .eqN g g, .eqN gR gR, .eqN gR gR, .eqN gR gR, .eqN gR gR, .eqN gR gR, .eqN gR gR, .eqN gR gR, .eqN gR gR, .eqN gR gR, .eqN gR gR, .eqN g g, .p (decide ((↑n : Int) < 1) = false), .eqN gR gR, .eqN g g, .p (sizedLaw (OfNat.ofNat 1)), .leN 1 n, .leN (off + n) B.length, .p (ByLaw B), .p (LowLaw B off (OfNat.ofNat 1)), .eqN gR gR,
 .eqN gR gR, .eqN gR gR, .eqN g g, .leN 1 n, .eqN gR gR, .eqN gR gR, .eqN gR gR]) : OkR (R25g1 B g gR off n) := OkR.dem (fl := bitsF 40 965293935680) (by kernel_rfl) (by kernel_rfl) (by kernel_rfl) h
theorem R25g1_val {B : List Int} {g gR off n : Nat} : (R25g1 B g gR off n).val = .int .i64 (numAtLaw 1 B off) := by kernel_rfl
theorem R25g1_tab {B : List Int} {g gR off n : Nat} : (R25g1 B g gR off n).tab = [some ⟨.agg [.slice 1 1 g (addO off 1) (n - 1) none, .int .i64 0, .bool true], gR, true, 115⟩, some ⟨.ints .u8 B, g, false, 5⟩] := by kernel_rfl
noncomputable def R25s2 (B : List Int) (g gR off n : Nat) : Res := runF eR1 f54 [] 400 [.var 0 gR, .int .i64 2] [some ⟨.agg [.slice 1 1 g off n none, .int .i64 0, .bool true], gR, true, 115⟩, some ⟨.ints .u8 B, g, false, 5⟩] [none, none, some true]
theorem R25s2_ok {B : List Int} {g gR off n : Nat} (h : allP [.eqN gR gR, .eqN g g, .eqN gR gR, .eqN gR gR, .eqN gR gR, .eqN gR gR, .eqN gR gR, .eqN gR gR, .eqN gR gR, .eqN gR gR, .eqN gR gR, .eqN gR gR, .eqN g g, .p (decide ((↑n : Int) < 2) = true), .eqN gR gR, .eqN gR gR, .eqN gR gR]) : OkR (R25s2 B g gR off n) := OkR.dem (fl := bitsF 24 14715968) (by kernel_rfl) (by kernel_rfl) (by kernel_rfl) h
theorem R25s2_val {B : List Int} {g gR off n : Nat} : (R25s2 B g gR off n).val = .int .i64 0 := by kernel_rfl
theorem R25s2_tab {B : List Int} {g gR off n : Nat} : (R25s2 B g gR off n).tab = [some ⟨.agg [.slice 1 1 g off n none, .int .i64 20, .bool true], gR, true, 115⟩, some ⟨.ints .u8 B, g, false, 5⟩] := by kernel_rfl
noncomputable def R25g2 (B : List Int) (g gR off n : Nat) : Res := runF eR1 f54 [] 400 [.var 0 gR, .int .i64 2] [some ⟨.agg [.slice 1 1 g off n none, .int .i64 0, .bool true], gR, true, 115⟩, some ⟨.ints .u8 B, g, false, 5⟩] [none, none, some false, none]
theorem R25g2_ok {B : List Int} {g gR off n : Nat} (h : allP [.eqN gR gR, .eqN g g, .eqN gR gR, .eqN gR gR, .eqN gR gR, .eqN gR gR, .eqN gR gR, .eqN gR gR, .eqN gR gR, .eqN gR gR, .eqN gR gR, .eqN gR gR, .eqN g g, .p (decide ((↑n : Int) < 2) = false), .eqN gR gR, .eqN g g, .p (sizedLaw (OfNat.ofNat 2)), .leN 2 n, .leN (off + n) B.length, .p (ByLaw B), .p (LowLaw B off (OfNat.ofNat 2)), .eqN gR gR,
 .eqN gR gR, .eqN gR gR, .eqN g g, .leN 2 n, .eqN gR gR, .eqN gR gR, .eqN gR gR]) : OkR (R25g2 B g gR off n) := OkR.dem (fl := bitsF 40 965293935680) (by kernel_rfl) (by kernel_rfl) (by kernel_rfl) h
theorem R25g2_val {B : List Int} {g gR off n : Nat} : (R25g2 B g gR off n).val = .int .i64 (numAtLaw 2 B off) := by kernel_rfl
theorem R25g2_tab {B : List Int} {g gR off n : Nat} : (R25g2 B g gR off n).tab = [some ⟨.agg [.slice 1 1 g (addO off 2) (n - 2) none, .int .i64 0, .bool true], gR, true, 115⟩, some ⟨.ints .u8 B, g, false, 5⟩] := by kernel_rfl
noncomputable def R25s4 (B : List Int) (g gR off n : Nat) : Res := runF eR1 f54 [] 400 [.var 0 gR, .int .i64 4] [some ⟨.agg [.slice 1 1 g off n none, .int .i64 0, .bool true], gR, true, 115⟩, some ⟨.ints .u8 B, g, false, 5⟩] [none, none, some true]
theorem R25s4_ok {B : List Int} {g gR off n : Nat} (h : allP [.eqN gR gR, .eqN g g, .eqN gR gR, .eqN gR gR, .eqN gR gR, .eqN gR gR, .eqN gR gR, .eqN gR gR, .eqN gR gR, .eqN gR gR, .eqN gR gR, .eqN gR gR, .eqN g g, .p (decide ((↑n : Int) < 4) = true), .eqN gR gR, .eqN gR gR, .eqN gR gR]) : OkR (R25s4 B g gR off n) := OkR.dem (fl := bitsF 24 14715968) (by kernel_rfl) (by kernel_rfl) (by kernel_rfl) h
theorem R25s4_val {B : List Int} {g gR off n : Nat} : (R25s4 B g gR off n).val = .int .i64 0 := by kernel_rfl
theorem R25s4_tab {B : List Int} {g gR off n : Nat} : (R25s4 B g gR off n).tab = [some ⟨.agg [.slice 1 1 g off n none, .int .i64 20, .bool true], gR, true, 115⟩, some ⟨.ints .u8 B, g, false, 5⟩] := by kernel_rfl
noncomputable def R25g4 (B : List Int) (g gR off n : Nat) : Res := runF eR1 f54 [] 400 [.var 0 gR, .int .i64 4] [some ⟨.agg [.slice 1 1 g off n none, .int .i64 0, .bool true], gR, true, 115⟩, some ⟨.ints .u8 B, g, false, 5⟩] [none, none, some false, none]
theorem R25g4_ok {B : List Int} {g gR off n : Nat} (h : allP [.eqN gR gR, .eqN g g, .eqN gR gR, .eqN gR gR, .eqN gR gR, .eqN gR gR, .eqN gR gR, .eqN gR gR, .eqN gR gR, .eqN gR gR, .eqN gR gR, .eqN gR gR, .eqN g g, .p (decide ((↑n : Int) < 4) = false), .eqN gR gR, .eqN g g, .p (sizedLaw (OfNat.ofNat 4)), .leN 4 n, .leN (off + n) B.length, .p (ByLaw B), .p (LowLaw B off (OfNat.ofNat 4)), .eqN gR gR,
 .eqN gR gR, .eqN gR gR, .eqN g g, .leN 4 n, .eqN gR gR, .eqN gR gR, .eqN gR gR]) : OkR (R25g4 B g gR off n) := OkR.dem (fl := bitsF 40 965293935680) (by kernel_rfl) (by kernel_rfl) (by kernel_rfl) h
theorem R25g4_val {B : List Int} {g gR off n : Nat} : (R25g4 B g gR off n).val = .int .i64 (numAtLaw 4 B off) := by kernel_rfl
theorem R25g4_tab {B : List Int} {g gR off n : Nat} : (R25g4 B g gR off n).tab = [some ⟨.agg [.slice 1 1 g (addO off 4) (n - 4) none, .int .i64 0, .bool true], gR, true, 115⟩, some ⟨.ints .u8 B, g, false, 5⟩] := by kernel_rfl
noncomputable def R25s8 (B : List Int) (g gR off n : Nat) : Res := runF eR1 f54 [] 400 [.var 0 gR, .int .i64 8] [some ⟨.agg [.slice 1 1 g off n none, .int .i64 0, .bool true], gR, true, 115⟩, some ⟨.ints .u8 B, g, false, 5⟩] [none, none, some true]
theorem R25s8_ok {B : List Int} {g gR off n : Nat} (h : allP [.eqN gR gR, .eqN g g, .eqN gR gR, .eqN gR gR, .eqN gR gR, .eqN gR gR, .eqN gR gR, .eqN gR gR, .eqN gR gR, .eqN gR gR, .eqN gR gR, .eqN gR gR, .eqN g g, .p (decide ((↑n : Int) < 8) = true), .eqN gR gR, .eqN gR gR, .eqN gR gR]) : OkR (R25s8 B g gR off n) := OkR.dem (fl := bitsF 23 7357504) (by kernel_rfl) (by kernel_rfl) (by kernel_rfl) h
theorem R25s8_val {B : List Int} {g gR off n : Nat} : (R25s8 B g gR off n).val = .int .i64 0 := by kernel_rfl
theorem R25s8_tab {B : List Int} {g gR off n : Nat} : (R25s8 B g gR off n).tab = [some ⟨.agg [.slice 1 1 g off n none, .int .i64 20, .bool true], gR, true, 115⟩, some ⟨.ints .u8 B, g, false, 5⟩] := by kernel_rfl
noncomputable def R25g8 (B : List Int) (g gR off n : Nat) : Res := runF eR1 f54 [] 400 [.var 0 gR, .int .i64 8] [some ⟨.agg [.slice 1 1 g off n none, .int .i64 0, .bool true], gR, true, 115⟩, some ⟨.ints .u8 B, g, false, 5⟩] [none, none, some false, none, some false]
theorem R25g8_ok {B : List Int} {g gR off n : Nat} (h : allP [.eqN gR gR, .eqN g g, .eqN gR gR, .eqN gR gR, .eqN gR gR, .eqN gR gR, .eqN gR gR, .eqN gR gR, .eqN gR gR, .eqN gR gR, .eqN gR gR, .eqN gR gR, .eqN g g, .p (decide ((↑n : Int) < 8) = false), .eqN gR gR, .eqN gR gR, .eqN gR gR, .eqN g g, .leI 1 (↑n : Int), .eqN g g, .leN (addO off 0 + 1) B.length, .p (decide (64 ≤ B.getD (addO off 0) 0) =
 false), .eqN gR gR, .eqN g g, .p (sizedLaw (OfNat.ofNat 8)), .leN 8 n, .leN (off + n) B.length, .p (ByLaw B), .p (LowLaw B off (OfNat.ofNat 8)), .eqN gR gR, .eqN gR gR, .eqN gR gR, .eqN g g, .leN 8 n, .eqN gR gR, .eqN gR gR, .eqN gR gR]) : OkR (R25g8 B g gR off n) := OkR.dem (fl := bitsF 49 494230481945664) (by kernel_rfl) (by kernel_rfl) (by kernel_rfl) h
theorem R25g8_val {B : List Int} {g gR off n : Nat} : (R25g8 B g gR off n).val = .int .i64 (numAtLaw 8 B off) := by kernel_rfl
theorem R25g8_tab {B : List Int} {g gR off n : Nat} : (R25g8 B g gR off n).tab = [some ⟨.agg [.slice 1 1 g (addO off 8) (n - 8) none, .int .i64 0, .bool true], gR, true, 115⟩, some ⟨.ints .u8 B, g, false, 5⟩] := by kernel_rfl
noncomputable def R25r (B : List Int) (g gR off n : Nat) : Res := runF eR1 f54 [] 400 [.var 0 gR, .int .i64 8] [some ⟨.agg [.slice 1 1 g off n none, .int .i64 0, .bool true], gR, true, 115⟩, some ⟨.ints .u8 B, g, false, 5⟩] [none, none, some false, none, some true]
theorem R25r_ok {B : List Int} {g gR off n : Nat} (h : allP [.eqN gR gR, .eqN g g, .eqN gR gR, .eqN gR gR, .eqN gR gR, .eqN gR gR, .eqN gR gR, .eqN gR gR, .eqN gR gR, .eqN gR gR, .eqN gR gR, .eqN gR gR, .eqN g g, .p (decide ((↑n : Int) < 8) = false), .eqN gR gR, .eqN gR gR, .eqN gR gR, .eqN g g, .leI 1 (↑n : Int), .eqN g g, .leN (addO off 0 + 1) B.length, .p (decide (64 ≤ B.getD (addO off 0) 0) =
 true), .eqN gR gR, .eqN gR gR, .eqN gR gR]) : OkR (R25r B g gR off n) := OkR.dem (fl := bitsF 33 7521453120) (by kernel_rfl) (by kernel_rfl) (by kernel_rfl) h
theorem R25r_val {B : List Int} {g gR off n : Nat} : (R25r B g gR off n).val = .int .i64 0 := by kernel_rfl
theorem R25r_tab {B : List Int} {g gR off n : Nat} : (R25r B g gR off n).tab = [some ⟨.agg [.slice 1 1 g off n none, .int .i64 11, .bool true], gR, true, 115⟩, some ⟨.ints .u8 B, g, false, 5⟩] := by kernel_rfl
/-! ### Length -/
noncomputable def eR2 : Env := eN0 [(78, S35), (83, S45r)]
theorem eR2_ok : EnvOk eR2 := envOf_ok tysN_ok (SumsOk.cons (fn := f78) S35_ok (by kernel_rfl) (by kernel_rfl) (by kernel_rfl) (SumsOk.cons (fn := f83) S45r_ok (by kernel_rfl) (by kernel_rfl) (by kernel_rfl) trivial))
noncomputable def R27e (B : List Int) (g gR off n : Nat) (e : Int) : Res := runF eR2 f79 [] 400 [.var 0 gR] [some ⟨.agg [.slice 1 1 g off n none, .int .i64 e, .bool true], gR, true, 115⟩, some ⟨.ints .u8 B, g, false, 5⟩] [some true]
theorem R27e_ok {B : List Int} {g gR off n : Nat} {e : Int} (h : allP [.eqN gR gR, .eqN g g, .eqN gR gR, .eqN gR gR, .eqN gR gR, .eqN gR gR, .eqN gR gR, .eqN gR gR, .eqN gR gR, .p ((e != 0) = true)]) : OkR (R27e B g gR off n e) := OkR.dem (fl := bitsF 12 1088) (by kernel_rfl) (by kernel_rfl) (by kernel_rfl) h
theorem R27e_val {B : List Int} {g gR off n : Nat} {e : Int} : (R27e B g gR off n e).val = .int .i64 0 := by kernel_rfl
theorem R27e_tab {B : List Int} {g gR off n : Nat} {e : Int} : (R27e B g gR off n e).tab = [some ⟨.agg [.slice 1 1 g off n none, .int .i64 e, .bool true], gR, true, 115⟩, some ⟨.ints .u8 B, g, false, 5⟩] := by kernel_rfl
noncomputable def R27z (B : List Int) (g gR off n : Nat) : Res := runF eR2 f79 [] 400 [.var 0 gR] [some ⟨.agg [.slice 1 1 g off n none, .int .i64 0, .bool true], gR, true, 115⟩, some ⟨.ints .u8 B, g, false, 5⟩] [none, some false, none, some true]
theorem R27z_ok {B : List Int} {g gR off n : Nat} (h : allP [.eqN gR gR, .eqN g g, .eqN gR gR, .eqN gR gR, .eqN gR gR, .eqN gR gR, .eqN gR gR, .eqN gR gR, .eqN gR gR, .eqN gR gR, .eqN gR gR, .eqN gR gR, .eqN g g, .p (decide (0 < (↑n : Int)) = false), .eqN gR gR, .eqN gR gR, .eqN gR gR, .eqN g g, .p (decide ((↑n : Int) < 1) = true), .eqN gR gR, .eqN gR gR, .eqN gR gR]) : OkR (R27z B g gR off n) :=
 OkR.dem (fl := bitsF 29 470828096) (by kernel_rfl) (by kernel_rfl) (by kernel_rfl) h
theorem R27z_val {B : List Int} {g gR off n : Nat} : (R27z B g gR off n).val = .int .i64 0 := by kernel_rfl
theorem R27z_tab {B : List Int} {g gR off n : Nat} : (R27z B g gR off n).tab = [some ⟨.agg [.slice 1 1 g off n none, .int .i64 20, .bool true], gR, true, 115⟩, some ⟨.ints .u8 B, g, false, 5⟩] := by kernel_rfl
end Go.Abs

set_option linter.unusedVariables false
set_option linter.unusedSimpArgs false
set_option maxRecDepth 100000
set_option maxHeartbeats 4000000
namespace Go.Abs
open Go.Proofs Go.Proofs.Try
/-! ### what a reader's Number answers -/
def rnP (B : List Int) (off : Nat) (e size : Int) : Int × Nat × Int :=
  if e ≠ 0 then (0, off, e) else if ¬ sizedLaw size then (0, off, 1) else if ((B.length - off : Nat) : Int) < size then (0, off, 20) else if size = 8 ∧ 64 ≤ B.getD off 0 then (0, off, 11) else (numAtLaw size.toNat B off, off + size.toNat, 0)
def rnVLaw (B : List Int) (off : Nat) (e size : Int) : Int := (rnP B off e size).1
def rnOLaw (B : List Int) (off : Nat) (e size : Int) : Nat := (rnP B off e size).2.1
def rnELaw (B : List Int) (off : Nat) (e size : Int) : Int := (rnP B off e size).2.2
theorem rn_e {B : List Int} {off : Nat} {e : Int} (size : Int) (h : e ≠ 0) : rnP B off e size = (0, off, e) := if_pos h
theorem rn_x {B : List Int} {off : Nat} {size : Int} (h : ¬ sizedLaw size) : rnP B off 0 size = (0, off, 1) := by unfold rnP; rw [if_neg (by decide), if_pos h]
theorem rn_s {B : List Int} {off : Nat} {size : Int} (h : sizedLaw size) (h2 : ((B.length - off : Nat) : Int) < size) : rnP B off 0 size = (0, off, 20) := by unfold rnP; rw [if_neg (by decide), if_neg (fun k => k h), if_pos h2]
theorem rn_r {B : List Int} {off : Nat} (h2 : ¬ ((B.length - off : Nat) : Int) < 8) (h3 : 64 ≤ B.getD off 0) : rnP B off 0 8 = (0, off, 11) := by unfold rnP; rw [if_neg (by decide), if_neg (fun k => k (.inr (.inr (.inr rfl)))), if_neg h2, if_pos ⟨rfl, h3⟩]
theorem rn_g {B : List Int} {off : Nat} {size : Int} (h : sizedLaw size) (h2 : ¬ ((B.length - off : Nat) : Int) < size) (h3 : LowLaw B off size) : rnP B off 0 size = (numAtLaw size.toNat B off, off + size.toNat, 0) := by
  unfold rnP
  rw [if_neg (by decide), if_neg (fun k => k h), if_neg h2, if_neg (fun k => by have := h3 k.1; omega)]
theorem unsz {size : Int} (h : ¬ sizedLaw size) : (size == 1) = false ∧ (size == 2) = false ∧ (size == 4) = false ∧ (size == 8) = false := by
  unfold sizedLaw at h
  simp only [beq_eq_false_iff_ne, ne_eq]
  omega
noncomputable def sm25c (args : List AVal) (T : Tab) (B : List Int) (g : Nat) (gR : Nat) (off : Nat) (n : Nat) (e : Int) (size : Int) : Res := ⟨[.tab T [some ⟨.agg [.slice 1 1 g off n none, .int .i64 e, .bool true], gR, true, 115⟩, some ⟨.ints .u8 B, g, false, 5⟩], .val (.tuple args) (.tuple [.var 0 gR, .int .i64 size]), .eqN n (B.length - off), .leN off B.length, .p (ByLaw B)], .int .i64 (rnVLaw B off e size), [some ⟨.agg [.slice 1 1 g (rnOLaw B off e size) (B.length - rnOLaw B off e size) none, .int .i64 (rnELaw B off e size), .bool true], gR, true, 115⟩, some ⟨.ints .u8 B, g, false, 5⟩]⟩
theorem sm25c_ok {args : List AVal} {T : Tab} {B : List Int} {g : Nat} {gR : Nat} {off : Nat} {n : Nat} {e : Int} {size : Int} (h : allP (sm25c args T B g gR off n e size).cs) : Small prog (fun _ => none) 54 args T (sm25c args T B g gR off n e size).val (sm25c args T B g gR off n e size).tab := by
  obtain ⟨hT, hv, h1, h2, h3, _⟩ := h
  simp only [Con.h] at hT hv h1 h2 h3
  injection hv with hv
  subst hT hv
  show Small prog (fun _ => none) 54 [.var 0 gR, .int .i64 size] [some ⟨.agg [.slice 1 1 g off n none, .int .i64 e, .bool true], gR, true, 115⟩, some ⟨.ints .u8 B, g, false, 5⟩] (.int .i64 (rnVLaw B off e size)) [some ⟨.agg [.slice 1 1 g (rnOLaw B off e size) (B.length - rnOLaw B off e size) none, .int .i64 (rnELaw B off e size), .bool true], gR, true, 115⟩, some ⟨.ints .u8 B, g, false, 5⟩]
  have hb : ByLaw B := h3
  subst h1
  by_cases he : e = 0
  rotate_left
  · have hr := rn_e (B := B) (off := off) size he
    have hne : (e != 0) = true := bne_iff_ne.2 he
    simp only [rnVLaw, rnOLaw, rnELaw, hr]
    refine small_of (R := R25e B g gR off (B.length - off) e size) eR1_ok hmN (f := 54) (fn := f54) (by kernel_rfl) (by kernel_rfl) FnOrc.nil rfl (R25e_ok ?_) R25e_val R25e_tab
    simp only [allP, Con.h, hne, not_false_eq_true, eq_self, true_and, and_true]
  subst he
  by_cases hs : sizedLaw size
  rotate_left
  · have hr := rn_x (B := B) (off := off) hs
    obtain ⟨u1, u2, u3, u4⟩ := unsz hs
    simp only [rnVLaw, rnOLaw, rnELaw, hr]
    refine small_of (R := R25x B g gR off (B.length - off) size) eR1x_ok hmN (f := 54) (fn := f54) (by kernel_rfl) (by kernel_rfl) FnOrc.nil rfl (R25x_ok ?_) R25x_val R25x_tab
    simp only [allP, Con.h, u1, u2, u3, u4, not_false_eq_true, eq_self, true_and, and_true]
  by_cases hl : ((B.length - off : Nat) : Int) < size
  · have hr := rn_s hs hl
    simp only [rnVLaw, rnOLaw, rnELaw, hr]
    rcases hs with rfl | rfl | rfl | rfl
    · refine small_of (R := R25s1 B g gR off (B.length - off)) eR1_ok hmN (f := 54) (fn := f54) (by kernel_rfl) (by kernel_rfl) FnOrc.nil rfl (R25s1_ok ?_) R25s1_val R25s1_tab
      simp only [allP, Con.h, decide_eq_true_eq, not_false_eq_true, eq_self, true_and, and_true]
      omega
    · refine small_of (R := R25s2 B g gR off (B.length - off)) eR1_ok hmN (f := 54) (fn := f54) (by kernel_rfl) (by kernel_rfl) FnOrc.nil rfl (R25s2_ok ?_) R25s2_val R25s2_tab
      simp only [allP, Con.h, decide_eq_true_eq, not_false_eq_true, eq_self, true_and, and_true]
      omega
    · refine small_of (R := R25s4 B g gR off (B.length - off)) eR1_ok hmN (f := 54) (fn := f54) (by kernel_rfl) (by kernel_rfl) FnOrc.nil rfl (R25s4_ok ?_) R25s4_val R25s4_tab
      simp only [allP, Con.h, decide_eq_true_eq, not_false_eq_true, eq_self, true_and, and_true]
      omega
    · refine small_of (R := R25s8 B g gR off (B.length - off)) eR1_ok hmN (f := 54) (fn := f54) (by kernel_rfl) (by kernel_rfl) FnOrc.nil rfl (R25s8_ok ?_) R25s8_val R25s8_tab
      simp only [allP, Con.h, decide_eq_true_eq, not_false_eq_true, eq_self, true_and, and_true]
      omega
  by_cases hr8 : size = 8 ∧ 64 ≤ B.getD off 0
  · obtain ⟨rfl, h8⟩ := hr8
    have hr := rn_r hl h8
    simp only [rnVLaw, rnOLaw, rnELaw, hr]
    refine small_of (R := R25r B g gR off (B.length - off)) eR1_ok hmN (f := 54) (fn := f54) (by kernel_rfl) (by kernel_rfl) FnOrc.nil rfl (R25r_ok ?_) R25r_val R25r_tab
    simp only [allP, Con.h, addO_eq, Nat.add_zero, h8, decide_eq_true_eq, decide_eq_false_iff_not, not_false_eq_true, eq_self, true_and, and_true]
    omega
  have hlow : LowLaw B off size := fun h => by omega
  have hr := rn_g hs hl hlow
  simp only [rnVLaw, rnOLaw, rnELaw, hr]
  rcases hs with rfl | rfl | rfl | rfl
  · have hz : sizedLaw (OfNat.ofNat 1) := by unfold sizedLaw; decide
    have hlow' : LowLaw B off (OfNat.ofNat 1) := hlow
    refine small_of (R := R25g1 B g gR off (B.length - off)) eR1_ok hmN (f := 54) (fn := f54) (by kernel_rfl) (by kernel_rfl) FnOrc.nil rfl (R25g1_ok ?_) R25g1_val (by rw [R25g1_tab, addO_eq, Nat.sub_sub]; rfl)
    simp only [allP, Con.h, addO_eq, Nat.add_zero, hb, hz, hlow', decide_eq_true_eq, decide_eq_false_iff_not, not_false_eq_true, eq_self, true_and, and_true]
    omega
  · have hz : sizedLaw (OfNat.ofNat 2) := by unfold sizedLaw; decide
    have hlow' : LowLaw B off (OfNat.ofNat 2) := hlow
    refine small_of (R := R25g2 B g gR off (B.length - off)) eR1_ok hmN (f := 54) (fn := f54) (by kernel_rfl) (by kernel_rfl) FnOrc.nil rfl (R25g2_ok ?_) R25g2_val (by rw [R25g2_tab, addO_eq, Nat.sub_sub]; rfl)
    simp only [allP, Con.h, addO_eq, Nat.add_zero, hb, hz, hlow', decide_eq_true_eq, decide_eq_false_iff_not, not_false_eq_true, eq_self, true_and, and_true]
    omega
  · have hz : sizedLaw (OfNat.ofNat 4) := by unfold sizedLaw; decide
    have hlow' : LowLaw B off (OfNat.ofNat 4) := hlow
    refine small_of (R := R25g4 B g gR off (B.length - off)) eR1_ok hmN (f := 54) (fn := f54) (by kernel_rfl) (by kernel_rfl) FnOrc.nil rfl (R25g4_ok ?_) R25g4_val (by rw [R25g4_tab, addO_eq, Nat.sub_sub]; rfl)
    simp only [allP, Con.h, addO_eq, Nat.add_zero, hb, hz, hlow', decide_eq_true_eq, decide_eq_false_iff_not, not_false_eq_true, eq_self, true_and, and_true]
    omega
  · have hz : sizedLaw (OfNat.ofNat 8) := by unfold sizedLaw; decide
    have hlow' : LowLaw B off (OfNat.ofNat 8) := hlow
    have h8 : ¬ 64 ≤ B.getD off 0 := by have := hlow rfl; omega
    refine small_of (R := R25g8 B g gR off (B.length - off)) eR1_ok hmN (f := 54) (fn := f54) (by kernel_rfl) (by kernel_rfl) FnOrc.nil rfl (R25g8_ok ?_) R25g8_val (by rw [R25g8_tab, addO_eq, Nat.sub_sub]; rfl)
    simp only [allP, Con.h, addO_eq, Nat.add_zero, hb, hz, hlow', h8, decide_eq_true_eq, decide_eq_false_iff_not, not_false_eq_true, eq_self, true_and, and_true]
    omega
noncomputable def sm25 : Summary := fun args T => sm25c args T (xsAt T 1) (gAt T 1) (gAt T 0) (offOf (cAt T 0 0)) (lenOf (cAt T 0 0)) (iOf (cAt T 0 1)) (iOf (vAt args 1))
theorem sm25_ok : SmOk prog (fun _ => none) 54 sm25 := fun args T h => sm25c_ok h
noncomputable def S25r : Summary := callR sm25 [true]
theorem S25r_ok : SumOk prog (fun _ => none) 54 S25r := callR_ok sm25_ok [true]
end Go.Abs

set_option linter.unusedVariables false
set_option linter.unusedSimpArgs false
set_option maxRecDepth 100000
set_option maxHeartbeats 4000000
namespace Go.Abs
open Go.Proofs Go.Proofs.Try
/-! ### the reader: Length -/
noncomputable def R27f (B : List Int) (g gR off n : Nat) : Res := runF eR2 f79 [] 400 [.var 0 gR] [some ⟨.agg [.slice 1 1 g off n none, .int .i64 0, .bool true], gR, true, 115⟩, some ⟨.ints .u8 B, g, false, 5⟩] [none, some true, some true]
theorem R27f_ok {B : List Int} {g gR off n : Nat} (h : allP [.eqN gR gR, .eqN g g, .eqN gR gR, .eqN gR gR, .eqN gR gR, .eqN gR gR, .eqN gR gR, .eqN gR gR, .eqN gR gR, .eqN gR gR, .eqN gR gR, .eqN gR gR, .eqN g g, .p (decide (0 < (↑n : Int)) = true), .eqN gR gR, .eqN gR gR, .eqN gR gR, .eqN g g, .leI 1 (↑n : Int), .eqN g g, .leN (addO off 0 + 1) B.length, .rng (-9223372036854775808) (B.getD (addO
 off 0) 0 / 64) 9223372036854775807, .rng 0 (B.getD (addO off 0) 0 / 64) 64, .rng (-9223372036854775808) (1 * 2 ^ (B.getD (addO off 0) 0 / 64).toNat) 9223372036854775807, .p ((B.getD (addO off 0) 0 / 64 == 3) = true), .eqN gR gR, .eqN gR gR, .eqN gR gR]) : OkR (R27f B g gR off n) := OkR.dem (fl := bitsF 37 120331453504) (by kernel_rfl) (by kernel_rfl) (by kernel_rfl) h
theorem R27f_val {B : List Int} {g gR off n : Nat} : (R27f B g gR off n).val = .int .i64 0 := by kernel_rfl
theorem R27f_tab {B : List Int} {g gR off n : Nat} : (R27f B g gR off n).tab = [some ⟨.agg [.slice 1 1 g off n none, .int .i64 21, .bool true], gR, true, 115⟩, some ⟨.ints .u8 B, g, false, 5⟩] := by kernel_rfl
noncomputable def R27s (B : List Int) (g gR off n : Nat) : Res := runF eR2 f79 [] 400 [.var 0 gR] [some ⟨.agg [.slice 1 1 g off n none, .int .i64 0, .bool true], gR, true, 115⟩, some ⟨.ints .u8 B, g, false, 5⟩] [none, some true, some false, some true]
theorem R27s_ok {B : List Int} {g gR off n : Nat} (h : allP [.eqN gR gR, .eqN g g, .eqN gR gR, .eqN gR gR, .eqN gR gR, .eqN gR gR, .eqN gR gR, .eqN gR gR, .eqN gR gR, .eqN gR gR, .eqN gR gR, .eqN gR gR, .eqN g g, .p (decide (0 < (↑n : Int)) = true), .eqN gR gR, .eqN gR gR, .eqN gR gR, .eqN g g, .leI 1 (↑n : Int), .eqN g g, .leN (addO off 0 + 1) B.length, .rng (-9223372036854775808) (B.getD (addO
 off 0) 0 / 64) 9223372036854775807, .rng 0 (B.getD (addO off 0) 0 / 64) 64, .rng (-9223372036854775808) (1 * 2 ^ (B.getD (addO off 0) 0 / 64).toNat) 9223372036854775807, .p ((B.getD (addO off 0) 0 / 64 == 3) = false), .eqN gR gR, .eqN gR gR, .eqN gR gR, .eqN g g, .p (decide ((↑n : Int) < 1 * 2 ^ (B.getD (addO off 0) 0 / 64).toNat) = true), .eqN gR gR, .eqN gR gR, .eqN gR gR]) : OkR (R27s B g gR off
 n) := OkR.dem (fl := bitsF 43 7713833632832) (by kernel_rfl) (by kernel_rfl) (by kernel_rfl) h
theorem R27s_val {B : List Int} {g gR off n : Nat} : (R27s B g gR off n).val = .int .i64 0 := by kernel_rfl
theorem R27s_tab {B : List Int} {g gR off n : Nat} : (R27s B g gR off n).tab = [some ⟨.agg [.slice 1 1 g off n none, .int .i64 20, .bool true], gR, true, 115⟩, some ⟨.ints .u8 B, g, false, 5⟩] := by kernel_rfl
noncomputable def R27b (B : List Int) (g gR off n : Nat) : Res := runF eR2 f79 [] 400 [.var 0 gR] [some ⟨.agg [.slice 1 1 g off n none, .int .i64 0, .bool true], gR, true, 115⟩, some ⟨.ints .u8 B, g, false, 5⟩] [none, some true, some false, some false, some true, some true]
theorem R27b_ok {B : List Int} {g gR off n : Nat} (h : allP [.eqN gR gR, .eqN g g, .eqN gR gR, .eqN gR gR, .eqN gR gR, .eqN gR gR, .eqN gR gR, .eqN gR gR, .eqN gR gR, .eqN gR gR, .eqN gR gR, .eqN gR gR, .eqN g g, .p (decide (0 < (↑n : Int)) = true), .eqN gR gR, .eqN gR gR, .eqN gR gR, .eqN g g, .leI 1 (↑n : Int), .eqN g g, .leN (addO off 0 + 1) B.length, .rng (-9223372036854775808) (B.getD (addO
 off 0) 0 / 64) 9223372036854775807, .rng 0 (B.getD (addO off 0) 0 / 64) 64, .rng (-9223372036854775808) (1 * 2 ^ (B.getD (addO off 0) 0 / 64).toNat) 9223372036854775807, .p ((B.getD (addO off 0) 0 / 64 == 3) = false), .eqN gR gR, .eqN gR gR, .eqN gR gR, .eqN g g, .p (decide ((↑n : Int) < 1 * 2 ^ (B.getD (addO off 0) 0 / 64).toNat) = false), .eqN gR gR, .eqN g g, .p (sizedLaw (1 * 2 ^ (B.getD (addO
 off 0) 0 / 64).toNat)), .leN (1 * 2 ^ (B.getD (addO off 0) 0 / 64).toNat) n, .leN (off + n) B.length, .p (ByLaw B), .p (LowLaw B off (1 * 2 ^ (B.getD (addO off 0) 0 / 64).toNat)), .rng (-9223372036854775808) (8 * ((1 : Int) * 2 ^ (B.getD (addO off 0) 0 / 64).toNat)) 9223372036854775807, .rng (-9223372036854775808) (8 * ((1 : Int) * 2 ^ (B.getD (addO off 0) 0 / 64).toNat)) 9223372036854775807, .rng
 (-9223372036854775808) (8 * ((1 : Int) * 2 ^ (B.getD (addO off 0) 0 / 64).toNat) - 2) 9223372036854775807, .rng (-9223372036854775808) (8 * ((1 : Int) * 2 ^ (B.getD (addO off 0) 0 / 64).toNat) - 2) 9223372036854775807, .rng 0 (8 * ((1 : Int) * 2 ^ (B.getD (addO off 0) 0 / 64).toNat) - 2) 64, .rng (-9223372036854775808) (1 * 2 ^ (8 * ((1 : Int) * 2 ^ (B.getD (addO off 0) 0 / 64).toNat) - 2).toNat)
 9223372036854775807, .rng 0 (8 * ((1 : Int) * 2 ^ (B.getD (addO off 0) 0 / 64).toNat) - 2) 64, .rng (-9223372036854775808) (1 * 2 ^ (8 * ((1 : Int) * 2 ^ (B.getD (addO off 0) 0 / 64).toNat) - 2).toNat) 9223372036854775807, .rng (-9223372036854775808) (1 * 2 ^ (8 * ((1 : Int) * 2 ^ (B.getD (addO off 0) 0 / 64).toNat) - 2).toNat - 1) 9223372036854775807, .rng (-9223372036854775808) (1 * 2 ^ (8 * ((1
 : Int) * 2 ^ (B.getD (addO off 0) 0 / 64).toNat) - 2).toNat - 1) 9223372036854775807, .nn .i64 (numAtLaw (1 * 2 ^ (B.getD (addO off 0) 0 / 64).toNat) B off), .nn .i64 (1 * 2 ^ (8 * ((1 : Int) * 2 ^ (B.getD (addO off 0) 0 / 64).toNat) - 2).toNat - 1), .p (decide (0 < B.getD (addO off 0) 0 / 64) = true), .rng (-9223372036854775808) (4 * ((1 : Int) * 2 ^ (B.getD (addO off 0) 0 / 64).toNat))
 9223372036854775807, .rng (-9223372036854775808) (4 * ((1 : Int) * 2 ^ (B.getD (addO off 0) 0 / 64).toNat) - 2) 9223372036854775807, .rng 0 (4 * ((1 : Int) * 2 ^ (B.getD (addO off 0) 0 / 64).toNat) - 2) 64, .p ((iand (numAtLaw (1 * 2 ^ (B.getD (addO off 0) 0 / 64).toNat) B off) (1 * 2 ^ (8 * ((1 : Int) * 2 ^ (B.getD (addO off 0) 0 / 64).toNat) - 2).toNat - 1) / 2 ^ (4 * ((1 : Int) * 2 ^ (B.getD
 (addO off 0) 0 / 64).toNat) - 2).toNat == 0) = true), .eqN gR gR, .eqN gR gR, .eqN gR gR]) : OkR (R27b B g gR off n) := OkR.dem (fl := bitsF 76 66113130760192285230144) (by kernel_rfl) (by kernel_rfl) (by kernel_rfl) h
theorem R27b_val {B : List Int} {g gR off n : Nat} : (R27b B g gR off n).val = .int .i64 0 := by kernel_rfl
theorem R27b_tab {B : List Int} {g gR off n : Nat} : (R27b B g gR off n).tab = [some ⟨.agg [.slice 1 1 g off n none, .int .i64 21, .bool true], gR, true, 115⟩, some ⟨.ints .u8 B, g, false, 5⟩] := by kernel_rfl
noncomputable def R27g (B : List Int) (g gR off n : Nat) : Res := runF eR2 f79 [] 400 [.var 0 gR] [some ⟨.agg [.slice 1 1 g off n none, .int .i64 0, .bool true], gR, true, 115⟩, some ⟨.ints .u8 B, g, false, 5⟩] [none, some true, some false, some false, some false]
theorem R27g_ok {B : List Int} {g gR off n : Nat} (h : allP [.eqN gR gR, .eqN g g, .eqN gR gR, .eqN gR gR, .eqN gR gR, .eqN gR gR, .eqN gR gR, .eqN gR gR, .eqN gR gR, .eqN gR gR, .eqN gR gR, .eqN gR gR, .eqN g g, .p (decide (0 < (↑n : Int)) = true), .eqN gR gR, .eqN gR gR, .eqN gR gR, .eqN g g, .leI 1 (↑n : Int), .eqN g g, .leN (addO off 0 + 1) B.length, .rng (-9223372036854775808) (B.getD (addO
 off 0) 0 / 64) 9223372036854775807, .rng 0 (B.getD (addO off 0) 0 / 64) 64, .rng (-9223372036854775808) (1 * 2 ^ (B.getD (addO off 0) 0 / 64).toNat) 9223372036854775807, .p ((B.getD (addO off 0) 0 / 64 == 3) = false), .eqN gR gR, .eqN gR gR, .eqN gR gR, .eqN g g, .p (decide ((↑n : Int) < 1 * 2 ^ (B.getD (addO off 0) 0 / 64).toNat) = false), .eqN gR gR, .eqN g g, .p (sizedLaw (1 * 2 ^ (B.getD (addO
 off 0) 0 / 64).toNat)), .leN (1 * 2 ^ (B.getD (addO off 0) 0 / 64).toNat) n, .leN (off + n) B.length, .p (ByLaw B), .p (LowLaw B off (1 * 2 ^ (B.getD (addO off 0) 0 / 64).toNat)), .rng (-9223372036854775808) (8 * ((1 : Int) * 2 ^ (B.getD (addO off 0) 0 / 64).toNat)) 9223372036854775807, .rng (-9223372036854775808) (8 * ((1 : Int) * 2 ^ (B.getD (addO off 0) 0 / 64).toNat)) 9223372036854775807, .rng
 (-9223372036854775808) (8 * ((1 : Int) * 2 ^ (B.getD (addO off 0) 0 / 64).toNat) - 2) 9223372036854775807, .rng (-9223372036854775808) (8 * ((1 : Int) * 2 ^ (B.getD (addO off 0) 0 / 64).toNat) - 2) 9223372036854775807, .rng 0 (8 * ((1 : Int) * 2 ^ (B.getD (addO off 0) 0 / 64).toNat) - 2) 64, .rng (-9223372036854775808) (1 * 2 ^ (8 * ((1 : Int) * 2 ^ (B.getD (addO off 0) 0 / 64).toNat) - 2).toNat)
 9223372036854775807, .rng 0 (8 * ((1 : Int) * 2 ^ (B.getD (addO off 0) 0 / 64).toNat) - 2) 64, .rng (-9223372036854775808) (1 * 2 ^ (8 * ((1 : Int) * 2 ^ (B.getD (addO off 0) 0 / 64).toNat) - 2).toNat) 9223372036854775807, .rng (-9223372036854775808) (1 * 2 ^ (8 * ((1 : Int) * 2 ^ (B.getD (addO off 0) 0 / 64).toNat) - 2).toNat - 1) 9223372036854775807, .rng (-9223372036854775808) (1 * 2 ^ (8 * ((1
 : Int) * 2 ^ (B.getD (addO off 0) 0 / 64).toNat) - 2).toNat - 1) 9223372036854775807, .nn .i64 (numAtLaw (1 * 2 ^ (B.getD (addO off 0) 0 / 64).toNat) B off), .nn .i64 (1 * 2 ^ (8 * ((1 : Int) * 2 ^ (B.getD (addO off 0) 0 / 64).toNat) - 2).toNat - 1), .p (decide (0 < B.getD (addO off 0) 0 / 64) = false), .eqN gR gR, .eqN gR gR, .eqN gR gR, .leI 0 (1 * 2 ^ (B.getD (addO off 0) 0 / 64).toNat), .eqN g
 g, .leN (1 * 2 ^ (B.getD (addO off 0) 0 / 64).toNat) n, .eqN gR gR, .eqN gR gR, .eqN gR gR]) : OkR (R27g B g gR off n) := OkR.dem (fl := bitsF 79 529495341891776221824064) (by kernel_rfl) (by kernel_rfl) (by kernel_rfl) h
theorem R27g_val {B : List Int} {g gR off n : Nat} : (R27g B g gR off n).val = .int .i64 (iand (numAtLaw (1 * 2 ^ (B.getD (addO off 0) 0 / 64).toNat) B off) (1 * 2 ^ (8 * ((1 : Int) * 2 ^ (B.getD (addO off 0) 0 / 64).toNat) - 2).toNat - 1)) := by kernel_rfl
theorem R27g_tab {B : List Int} {g gR off n : Nat} : (R27g B g gR off n).tab = [some ⟨.agg [.slice 1 1 g (addO off (1 * 2 ^ (B.getD (addO off 0) 0 / 64).toNat)) (subO n (1 * 2 ^ (B.getD (addO off 0) 0 / 64).toNat)) none, .int .i64 0, .bool true], gR, true, 115⟩, some ⟨.ints .u8 B, g, false, 5⟩] := by kernel_rfl
noncomputable def R27h (B : List Int) (g gR off n : Nat) : Res := runF eR2 f79 [] 400 [.var 0 gR] [some ⟨.agg [.slice 1 1 g off n none, .int .i64 0, .bool true], gR, true, 115⟩, some ⟨.ints .u8 B, g, false, 5⟩] [none, some true, some false, some false, some true, some false]
theorem R27h_ok {B : List Int} {g gR off n : Nat} (h : allP [.eqN gR gR, .eqN g g, .eqN gR gR, .eqN gR gR, .eqN gR gR, .eqN gR gR, .eqN gR gR, .eqN gR gR, .eqN gR gR, .eqN gR gR, .eqN gR gR, .eqN gR gR, .eqN g g, .p (decide (0 < (↑n : Int)) = true), .eqN gR gR, .eqN gR gR, .eqN gR gR, .eqN g g, .leI 1 (↑n : Int), .eqN g g, .leN (addO off 0 + 1) B.length, .rng (-9223372036854775808) (B.getD (addO
 off 0) 0 / 64) 9223372036854775807, .rng 0 (B.getD (addO off 0) 0 / 64) 64, .rng (-9223372036854775808) (1 * 2 ^ (B.getD (addO off 0) 0 / 64).toNat) 9223372036854775807, .p ((B.getD (addO off 0) 0 / 64 == 3) = false), .eqN gR gR, .eqN gR gR, .eqN gR gR, .eqN g g, .p (decide ((↑n : Int) < 1 * 2 ^ (B.getD (addO off 0) 0 / 64).toNat) = false), .eqN gR gR, .eqN g g, .p (sizedLaw (1 * 2 ^ (B.getD (addO
 off 0) 0 / 64).toNat)), .leN (1 * 2 ^ (B.getD (addO off 0) 0 / 64).toNat) n, .leN (off + n) B.length, .p (ByLaw B), .p (LowLaw B off (1 * 2 ^ (B.getD (addO off 0) 0 / 64).toNat)), .rng (-9223372036854775808) (8 * ((1 : Int) * 2 ^ (B.getD (addO off 0) 0 / 64).toNat)) 9223372036854775807, .rng (-9223372036854775808) (8 * ((1 : Int) * 2 ^ (B.getD (addO off 0) 0 / 64).toNat)) 9223372036854775807, .rng
 (-9223372036854775808) (8 * ((1 : Int) * 2 ^ (B.getD (addO off 0) 0 / 64).toNat) - 2) 9223372036854775807, .rng (-9223372036854775808) (8 * ((1 : Int) * 2 ^ (B.getD (addO off 0) 0 / 64).toNat) - 2) 9223372036854775807, .rng 0 (8 * ((1 : Int) * 2 ^ (B.getD (addO off 0) 0 / 64).toNat) - 2) 64, .rng (-9223372036854775808) (1 * 2 ^ (8 * ((1 : Int) * 2 ^ (B.getD (addO off 0) 0 / 64).toNat) - 2).toNat)
 9223372036854775807, .rng 0 (8 * ((1 : Int) * 2 ^ (B.getD (addO off 0) 0 / 64).toNat) - 2) 64, .rng (-9223372036854775808) (1 * 2 ^ (8 * ((1 : Int) * 2 ^ (B.getD (addO off 0) 0 / 64).toNat) - 2).toNat) 9223372036854775807, .rng (-9223372036854775808) (1 * 2 ^ (8 * ((1 : Int) * 2 ^ (B.getD (addO off 0) 0 / 64).toNat) - 2).toNat - 1) 9223372036854775807, .rng (-9223372036854775808) (1 * 2 ^ (8 * ((1
 : Int) * 2 ^ (B.getD (addO off 0) 0 / 64).toNat) - 2).toNat - 1) 9223372036854775807, .nn .i64 (numAtLaw (1 * 2 ^ (B.getD (addO off 0) 0 / 64).toNat) B off), .nn .i64 (1 * 2 ^ (8 * ((1 : Int) * 2 ^ (B.getD (addO off 0) 0 / 64).toNat) - 2).toNat - 1), .p (decide (0 < B.getD (addO off 0) 0 / 64) = true), .rng (-9223372036854775808) (4 * ((1 : Int) * 2 ^ (B.getD (addO off 0) 0 / 64).toNat))
 9223372036854775807, .rng (-9223372036854775808) (4 * ((1 : Int) * 2 ^ (B.getD (addO off 0) 0 / 64).toNat) - 2) 9223372036854775807, .rng 0 (4 * ((1 : Int) * 2 ^ (B.getD (addO off 0) 0 / 64).toNat) - 2) 64, .p ((iand (numAtLaw (1 * 2 ^ (B.getD (addO off 0) 0 / 64).toNat) B off) (1 * 2 ^ (8 * ((1 : Int) * 2 ^ (B.getD (addO off 0) 0 / 64).toNat) - 2).toNat - 1) / 2 ^ (4 * ((1 : Int) * 2 ^ (B.getD
 (addO off 0) 0 / 64).toNat) - 2).toNat == 0) = false), .eqN gR gR, .eqN gR gR, .eqN gR gR, .leI 0 (1 * 2 ^ (B.getD (addO off 0) 0 / 64).toNat), .eqN g g, .leN (1 * 2 ^ (B.getD (addO off 0) 0 / 64).toNat) n, .eqN gR gR, .eqN gR gR, .eqN gR gR]) : OkR (R27h B g gR off n) := OkR.dem (fl := bitsF 83 8471925470268160765609024) (by kernel_rfl) (by kernel_rfl) (by kernel_rfl) h
theorem R27h_val {B : List Int} {g gR off n : Nat} : (R27h B g gR off n).val = .int .i64 (iand (numAtLaw (1 * 2 ^ (B.getD (addO off 0) 0 / 64).toNat) B off) (1 * 2 ^ (8 * ((1 : Int) * 2 ^ (B.getD (addO off 0) 0 / 64).toNat) - 2).toNat - 1)) := by kernel_rfl
theorem R27h_tab {B : List Int} {g gR off n : Nat} : (R27h B g gR off n).tab = [some ⟨.agg [.slice 1 1 g (addO off (1 * 2 ^ (B.getD (addO off 0) 0 / 64).toNat)) (subO n (1 * 2 ^ (B.getD (addO off 0) 0 / 64).toNat)) none, .int .i64 0, .bool true], gR, true, 115⟩, some ⟨.ints .u8 B, g, false, 5⟩] := by kernel_rfl
end Go.Abs

set_option linter.unusedVariables false
set_option linter.unusedSimpArgs false
set_option maxRecDepth 100000
set_option maxHeartbeats 4000000
namespace Go.Abs
open Go.Proofs Go.Proofs.Try
/-! ### what a reader's Length answers -/
def rlT (B : List Int) (off k : Nat) (m lo : Int) : Int × Nat × Int := if B.length - off < k then (0, off, 20) else if iand (numAtLaw k B off) m < lo then (0, off, 21) else (iand (numAtLaw k B off) m, off + k, 0)
def rlP (B : List Int) (off : Nat) (e : Int) : Int × Nat × Int :=
  if e ≠ 0 then (0, off, e) else if B.length - off = 0 then (0, off, 20) else if B.getD off 0 / 64 = 3 then (0, off, 21) else if B.getD off 0 / 64 = 0 then rlT B off 1 63 0 else if B.getD off 0 / 64 = 1 then rlT B off 2 16383 64 else rlT B off 4 1073741823 16384
def rlVLaw (B : List Int) (off : Nat) (e : Int) : Int := (rlP B off e).1
def rlOLaw (B : List Int) (off : Nat) (e : Int) : Nat := (rlP B off e).2.1
def rlELaw (B : List Int) (off : Nat) (e : Int) : Int := (rlP B off e).2.2
theorem rl_e {B : List Int} {off : Nat} {e : Int} (h : e ≠ 0) : rlP B off e = (0, off, e) := if_pos h
theorem rl_z {B : List Int} {off : Nat} (h : B.length - off = 0) : rlP B off 0 = (0, off, 20) := by unfold rlP; rw [if_neg (by decide), if_pos h]
theorem rl_f {B : List Int} {off : Nat} (h : ¬ B.length - off = 0) (h2 : B.getD off 0 / 64 = 3) : rlP B off 0 = (0, off, 21) := by unfold rlP; rw [if_neg (by decide), if_neg h, if_pos h2]
theorem rl_0 {B : List Int} {off : Nat} (h : ¬ B.length - off = 0) (h2 : B.getD off 0 / 64 = 0) : rlP B off 0 = rlT B off 1 63 0 := by unfold rlP; rw [if_neg (by decide), if_neg h, h2, if_neg (by decide), if_pos rfl]
theorem rl_1 {B : List Int} {off : Nat} (h : ¬ B.length - off = 0) (h2 : B.getD off 0 / 64 = 1) : rlP B off 0 = rlT B off 2 16383 64 := by unfold rlP; rw [if_neg (by decide), if_neg h, h2, if_neg (by decide), if_neg (by decide), if_pos rfl]
theorem rl_2 {B : List Int} {off : Nat} (h : ¬ B.length - off = 0) (h2 : B.getD off 0 / 64 = 2) : rlP B off 0 = rlT B off 4 1073741823 16384 := by unfold rlP; rw [if_neg (by decide), if_neg h, h2, if_neg (by decide), if_neg (by decide), if_neg (by decide)]
theorem rlT_s {B : List Int} {off k : Nat} {m lo : Int} (h : B.length - off < k) : rlT B off k m lo = (0, off, 20) := if_pos h
theorem rlT_b {B : List Int} {off k : Nat} {m lo : Int} (h : ¬ B.length - off < k) (h2 : iand (numAtLaw k B off) m < lo) : rlT B off k m lo = (0, off, 21) := by unfold rlT; rw [if_neg h, if_pos h2]
theorem rlT_g {B : List Int} {off k : Nat} {m lo : Int} (h : ¬ B.length - off < k) (h2 : ¬ iand (numAtLaw k B off) m < lo) : rlT B off k m lo = (iand (numAtLaw k B off) m, off + k, 0) := by unfold rlT; rw [if_neg h, if_neg h2]
theorem iand_pos (a b : Int) : 0 ≤ iand a b := Int.natCast_nonneg _
noncomputable def sm27c (args : List AVal) (T : Tab) (B : List Int) (g : Nat) (gR : Nat) (off : Nat) (n : Nat) (e : Int) : Res := ⟨[.tab T [some ⟨.agg [.slice 1 1 g off n none, .int .i64 e, .bool true], gR, true, 115⟩, some ⟨.ints .u8 B, g, false, 5⟩], .val (.tuple args) (.tuple [.var 0 gR]), .eqN n (B.length - off), .leN off B.length, .p (ByLaw B)], .int .i64 (rlVLaw B off e), [some ⟨.agg [.slice 1 1 g (rlOLaw B off e) (B.length - rlOLaw B off e) none, .int .i64 (rlELaw B off e), .bool true], gR, true, 115⟩, some ⟨.ints .u8 B, g, false, 5⟩]⟩
theorem sm27c_ok {args : List AVal} {T : Tab} {B : List Int} {g : Nat} {gR : Nat} {off : Nat} {n : Nat} {e : Int} (h : allP (sm27c args T B g gR off n e).cs) : Small prog (fun _ => none) 79 args T (sm27c args T B g gR off n e).val (sm27c args T B g gR off n e).tab := by
  obtain ⟨hT, hv, h1, h2, h3, _⟩ := h
  simp only [Con.h] at hT hv h1 h2 h3
  injection hv with hv
  subst hT hv
  show Small prog (fun _ => none) 79 [.var 0 gR] [some ⟨.agg [.slice 1 1 g off n none, .int .i64 e, .bool true], gR, true, 115⟩, some ⟨.ints .u8 B, g, false, 5⟩] (.int .i64 (rlVLaw B off e)) [some ⟨.agg [.slice 1 1 g (rlOLaw B off e) (B.length - rlOLaw B off e) none, .int .i64 (rlELaw B off e), .bool true], gR, true, 115⟩, some ⟨.ints .u8 B, g, false, 5⟩]
  have hb : ByLaw B := h3
  subst h1
  have hB := hb off
  by_cases he : e = 0
  rotate_left
  · have hr := rl_e (B := B) (off := off) he
    have hne : (e != 0) = true := bne_iff_ne.2 he
    simp only [rlVLaw, rlOLaw, rlELaw, hr]
    refine small_of (R := R27e B g gR off (B.length - off) e) eR2_ok hmN (f := 79) (fn := f79) (by kernel_rfl) (by kernel_rfl) FnOrc.nil rfl (R27e_ok ?_) R27e_val R27e_tab
    simp only [allP, Con.h, hne, not_false_eq_true, eq_self, true_and, and_true]
  subst he
  by_cases hn : B.length - off = 0
  · have hr := rl_z hn
    simp only [rlVLaw, rlOLaw, rlELaw, hr]
    refine small_of (R := R27z B g gR off (B.length - off)) eR2_ok hmN (f := 79) (fn := f79) (by kernel_rfl) (by kernel_rfl) FnOrc.nil rfl (R27z_ok ?_) R27z_val R27z_tab
    simp only [allP, Con.h, decide_eq_true_eq, decide_eq_false_iff_not, not_false_eq_true, eq_self, true_and, and_true]
    omega
  by_cases ht : B.getD off 0 / 64 = 3
  · have hr := rl_f hn ht
    simp only [rlVLaw, rlOLaw, rlELaw, hr]
    refine small_of (R := R27f B g gR off (B.length - off)) eR2_ok hmN (f := 79) (fn := f79) (by kernel_rfl) (by kernel_rfl) FnOrc.nil rfl (R27f_ok ?_) R27f_val R27f_tab
    simp only [allP, Con.h, ht, addO_eq, subO_eq, Nat.add_zero, nonneg, ht, Int.reduceMul, Int.reducePow, Int.reduceSub, Int.reduceAdd, Int.reduceToNat, Nat.reducePow, Nat.reduceMul, Nat.reduceSub, Int.reduceLT, Int.reduceLE, Nat.reduceLT, Nat.reduceLeDiff, Int.one_mul, Nat.one_mul, decide_true, decide_false, decide_eq_true_eq, decide_eq_false_iff_not, beq_iff_eq, beq_eq_false_iff_ne, ne_eq, not_false_eq_true, eq_self, true_and, and_true]
    omega
  have htt : B.getD off 0 / 64 = 0 ∨ B.getD off 0 / 64 = 1 ∨ B.getD off 0 / 64 = 2 := by omega
  clear ht
  rcases htt with ht | ht | ht
  · have hz : sizedLaw 1 := by unfold sizedLaw; decide
    have hlow : LowLaw B off 1 := fun h => absurd h (by decide)
    have hrg := beN_rng hb off 1
    have hrg1 : 0 ≤ numAtLaw 1 B off := hrg.1
    have hrg2 : numAtLaw 1 B off < 256 := hrg.2
    have hip := iand_pos (numAtLaw 1 B off) 63
    by_cases hl : B.length - off < 1
    · have hr := (rl_0 hn ht).trans (rlT_s hl)
      simp only [rlVLaw, rlOLaw, rlELaw, hr]
      refine small_of (R := R27s B g gR off (B.length - off)) eR2_ok hmN (f := 79) (fn := f79) (by kernel_rfl) (by kernel_rfl) FnOrc.nil rfl (R27s_ok ?_) R27s_val R27s_tab
      simp only [allP, Con.h, ht, addO_eq, subO_eq, Nat.add_zero, nonneg, ht, Int.reduceMul, Int.reducePow, Int.reduceSub, Int.reduceAdd, Int.reduceToNat, Nat.reducePow, Nat.reduceMul, Nat.reduceSub, Int.reduceLT, Int.reduceLE, Nat.reduceLT, Nat.reduceLeDiff, Int.one_mul, Nat.one_mul, decide_true, decide_false, decide_eq_true_eq, decide_eq_false_iff_not, beq_iff_eq, beq_eq_false_iff_ne, ne_eq, not_false_eq_true, eq_self, true_and, and_true]
      omega
    have hv : ¬ iand (numAtLaw 1 B off) 63 < 0 := by omega
    have hr := (rl_0 hn ht).trans (rlT_g hl hv)
    simp only [rlVLaw, rlOLaw, rlELaw, hr]
    refine small_of (R := R27g B g gR off (B.length - off)) eR2_ok hmN (f := 79) (fn := f79) (by kernel_rfl) (by kernel_rfl) FnOrc.nil rfl (R27g_ok ?_) (by rw [R27g_val]; simp only [addO_eq, Nat.add_zero, ht]; rfl) (by rw [R27g_tab]; simp only [addO_eq, subO_eq, Nat.add_zero, ht, Nat.sub_sub]; rfl)
    simp only [allP, Con.h, ht, addO_eq, subO_eq, Nat.add_zero, nonneg, hz, hb, hlow, Int.reduceMul, Int.reducePow, Int.reduceSub, Int.reduceAdd, Int.reduceToNat, Nat.reducePow, Nat.reduceMul, Nat.reduceSub, Int.reduceLT, Int.reduceLE, Nat.reduceLT, Nat.reduceLeDiff, Int.one_mul, Nat.one_mul, decide_true, decide_false, decide_eq_true_eq, decide_eq_false_iff_not, beq_iff_eq, beq_eq_false_iff_ne, ne_eq, not_false_eq_true, eq_self, true_and, and_true]
    omega
  · have hz : sizedLaw 2 := by unfold sizedLaw; decide
    have hlow : LowLaw B off 2 := fun h => absurd h (by decide)
    have hrg := beN_rng hb off 2
    have hrg1 : 0 ≤ numAtLaw 2 B off := hrg.1
    have hrg2 : numAtLaw 2 B off < 65536 := hrg.2
    have hip := iand_pos (numAtLaw 2 B off) 16383
    by_cases hl : B.length - off < 2
    · have hr := (rl_1 hn ht).trans (rlT_s hl)
      simp only [rlVLaw, rlOLaw, rlELaw, hr]
      refine small_of (R := R27s B g gR off (B.length - off)) eR2_ok hmN (f := 79) (fn := f79) (by kernel_rfl) (by kernel_rfl) FnOrc.nil rfl (R27s_ok ?_) R27s_val R27s_tab
      simp only [allP, Con.h, ht, addO_eq, subO_eq, Nat.add_zero, nonneg, ht, Int.reduceMul, Int.reducePow, Int.reduceSub, Int.reduceAdd, Int.reduceToNat, Nat.reducePow, Nat.reduceMul, Nat.reduceSub, Int.reduceLT, Int.reduceLE, Nat.reduceLT, Nat.reduceLeDiff, Int.one_mul, Nat.one_mul, decide_true, decide_false, decide_eq_true_eq, decide_eq_false_iff_not, beq_iff_eq, beq_eq_false_iff_ne, ne_eq, not_false_eq_true, eq_self, true_and, and_true]
      omega
    by_cases hv : iand (numAtLaw 2 B off) 16383 < 64
    · have hr := (rl_1 hn ht).trans (rlT_b hl hv)
      simp only [rlVLaw, rlOLaw, rlELaw, hr]
      refine small_of (R := R27b B g gR off (B.length - off)) eR2_ok hmN (f := 79) (fn := f79) (by kernel_rfl) (by kernel_rfl) FnOrc.nil rfl (R27b_ok ?_) R27b_val R27b_tab
      simp only [allP, Con.h, ht, addO_eq, subO_eq, Nat.add_zero, nonneg, hz, hb, hlow, Int.reduceMul, Int.reducePow, Int.reduceSub, Int.reduceAdd, Int.reduceToNat, Nat.reducePow, Nat.reduceMul, Nat.reduceSub, Int.reduceLT, Int.reduceLE, Nat.reduceLT, Nat.reduceLeDiff, Int.one_mul, Nat.one_mul, decide_true, decide_false, decide_eq_true_eq, decide_eq_false_iff_not, beq_iff_eq, beq_eq_false_iff_ne, ne_eq, not_false_eq_true, eq_self, true_and, and_true]
      omega
    have hr := (rl_1 hn ht).trans (rlT_g hl hv)
    simp only [rlVLaw, rlOLaw, rlELaw, hr]
    refine small_of (R := R27h B g gR off (B.length - off)) eR2_ok hmN (f := 79) (fn := f79) (by kernel_rfl) (by kernel_rfl) FnOrc.nil rfl (R27h_ok ?_) (by rw [R27h_val]; simp only [addO_eq, Nat.add_zero, ht]; rfl) (by rw [R27h_tab]; simp only [addO_eq, subO_eq, Nat.add_zero, ht, Nat.sub_sub]; rfl)
    simp only [allP, Con.h, ht, addO_eq, subO_eq, Nat.add_zero, nonneg, hz, hb, hlow, Int.reduceMul, Int.reducePow, Int.reduceSub, Int.reduceAdd, Int.reduceToNat, Nat.reducePow, Nat.reduceMul, Nat.reduceSub, Int.reduceLT, Int.reduceLE, Nat.reduceLT, Nat.reduceLeDiff, Int.one_mul, Nat.one_mul, decide_true, decide_false, decide_eq_true_eq, decide_eq_false_iff_not, beq_iff_eq, beq_eq_false_iff_ne, ne_eq, not_false_eq_true, eq_self, true_and, and_true]
    omega
  · have hz : sizedLaw 4 := by unfold sizedLaw; decide
    have hlow : LowLaw B off 4 := fun h => absurd h (by decide)
    have hrg := beN_rng hb off 4
    have hrg1 : 0 ≤ numAtLaw 4 B off := hrg.1
    have hrg2 : numAtLaw 4 B off < 4294967296 := hrg.2
    have hip := iand_pos (numAtLaw 4 B off) 1073741823
    by_cases hl : B.length - off < 4
    · have hr := (rl_2 hn ht).trans (rlT_s hl)
      simp only [rlVLaw, rlOLaw, rlELaw, hr]
      refine small_of (R := R27s B g gR off (B.length - off)) eR2_ok hmN (f := 79) (fn := f79) (by kernel_rfl) (by kernel_rfl) FnOrc.nil rfl (R27s_ok ?_) R27s_val R27s_tab
      simp only [allP, Con.h, ht, addO_eq, subO_eq, Nat.add_zero, nonneg, ht, Int.reduceMul, Int.reducePow, Int.reduceSub, Int.reduceAdd, Int.reduceToNat, Nat.reducePow, Nat.reduceMul, Nat.reduceSub, Int.reduceLT, Int.reduceLE, Nat.reduceLT, Nat.reduceLeDiff, Int.one_mul, Nat.one_mul, decide_true, decide_false, decide_eq_true_eq, decide_eq_false_iff_not, beq_iff_eq, beq_eq_false_iff_ne, ne_eq, not_false_eq_true, eq_self, true_and, and_true]
      omega
    by_cases hv : iand (numAtLaw 4 B off) 1073741823 < 16384
    · have hr := (rl_2 hn ht).trans (rlT_b hl hv)
      simp only [rlVLaw, rlOLaw, rlELaw, hr]
      refine small_of (R := R27b B g gR off (B.length - off)) eR2_ok hmN (f := 79) (fn := f79) (by kernel_rfl) (by kernel_rfl) FnOrc.nil rfl (R27b_ok ?_) R27b_val R27b_tab
      simp only [allP, Con.h, ht, addO_eq, subO_eq, Nat.add_zero, nonneg, hz, hb, hlow, Int.reduceMul, Int.reducePow, Int.reduceSub, Int.reduceAdd, Int.reduceToNat, Nat.reducePow, Nat.reduceMul, Nat.reduceSub, Int.reduceLT, Int.reduceLE, Nat.reduceLT, Nat.reduceLeDiff, Int.one_mul, Nat.one_mul, decide_true, decide_false, decide_eq_true_eq, decide_eq_false_iff_not, beq_iff_eq, beq_eq_false_iff_ne, ne_eq, not_false_eq_true, eq_self, true_and, and_true]
      omega
    have hr := (rl_2 hn ht).trans (rlT_g hl hv)
    simp only [rlVLaw, rlOLaw, rlELaw, hr]
    refine small_of (R := R27h B g gR off (B.length - off)) eR2_ok hmN (f := 79) (fn := f79) (by kernel_rfl) (by kernel_rfl) FnOrc.nil rfl (R27h_ok ?_) (by rw [R27h_val]; simp only [addO_eq, Nat.add_zero, ht]; rfl) (by rw [R27h_tab]; simp only [addO_eq, subO_eq, Nat.add_zero, ht, Nat.sub_sub]; rfl)
    simp only [allP, Con.h, ht, addO_eq, subO_eq, Nat.add_zero, nonneg, hz, hb, hlow, Int.reduceMul, Int.reducePow, Int.reduceSub, Int.reduceAdd, Int.reduceToNat, Nat.reducePow, Nat.reduceMul, Nat.reduceSub, Int.reduceLT, Int.reduceLE, Nat.reduceLT, Nat.reduceLeDiff, Int.one_mul, Nat.one_mul, decide_true, decide_false, decide_eq_true_eq, decide_eq_false_iff_not, beq_iff_eq, beq_eq_false_iff_ne, ne_eq, not_false_eq_true, eq_self, true_and, and_true]
    omega
noncomputable def sm27 : Summary := fun args T => sm27c args T (xsAt T 1) (gAt T 1) (gAt T 0) (offOf (cAt T 0 0)) (lenOf (cAt T 0 0)) (iOf (cAt T 0 1))
theorem sm27_ok : SmOk prog (fun _ => none) 79 sm27 := fun args T h => sm27c_ok h
noncomputable def S27r : Summary := callR sm27 [true]
theorem S27r_ok : SumOk prog (fun _ => none) 79 S27r := callR_ok sm27_ok [true]
end Go.Abs

set_option linter.unusedVariables false
set_option linter.unusedSimpArgs false
set_option maxRecDepth 8000
namespace Go.Abs
open Go.Proofs Go.Proofs.Try
/-! ### nothing, told as a slice of an empty object -/
def subA : Fm → Fm → Prop
  | [], _ => True
  | (t, v) :: r, fm => look fm t = some v ∧ subA r fm
theorem subA_ok {fm : Fm} : ∀ {f : Fm}, subA f fm → ∀ t v, look f t = some v → look fm t = some v
  | [], _, t, v, h => by cases h
  | (s, u) :: r, h, t, v, hl => by
    simp only [look] at hl
    split at hl
    · rename_i e
      have := Nat.eq_of_beq_eq_true e
      subst this
      injection hl with hl; subst hl
      exact h.1
    · exact subA_ok h.2 t v hl
theorem AWp.fmSub {E : Env} {n k : Nat} {c : Code} {fm f : Fm} {T : Tab} {post : AExit → Fm → Tab → Prop} (hs : subA f fm) (h : AWp E n k c f T post) : AWp E n k c fm T post :=
  fun rr D ν a w hr hrd => h rr D ν a w ⟨hr.hr, fun t v hv => hr.fm t v (subA_ok hs t v hv), hr.size, hr.defers⟩ hrd
theorem HR.pushEmptyG {gl : Nat → Option AVal} {ν : Nu} {T : Tab} {w : World} (hr : HR gl ν T w) (kk : IntKind) (et : TypeId) (gg : Nat) :
    ∃ l0 : Loc, l0.g = gg ∧ l0.room = 0 ∧ HR gl (upd ν T.length l0) (T ++ [some ⟨.ints kk [], gg, true, et⟩]) w ∧ NuLe ν (upd ν T.length l0) ∧ (∀ b, Own (upd ν T.length l0) (T ++ [some ⟨.ints kk [], gg, true, et⟩]) b → Own ν T b) := by
  have hn : ν T.length = none := by
    cases hν : ν T.length with
    | none => rfl
    | some l => have := hr.lt _ l hν; omega
  obtain ⟨l0, hl0⟩ : ∃ l0 : Loc, l0 = ⟨⟨0, 0, none⟩, gg, 0⟩ := ⟨_, rfl⟩
  have hm : NuLe ν (upd ν T.length l0) := NuLe.upd_new (ν := ν) l0 hn
  have same : ∀ p, p ≠ T.length → upd ν T.length l0 p = ν p := fun p hp => upd_other ν l0 hp
  have self : upd ν T.length l0 T.length = some l0 := upd_same ν _ l0
  have getT : ∀ p o, (T ++ [some (⟨.ints kk [], gg, true, et⟩ : AObj)])[p]? = some o → (p < T.length ∧ T[p]? = some o) ∨ (p = T.length ∧ o = some ⟨.ints kk [], gg, true, et⟩) := by
    intro p o ho
    rcases Nat.lt_or_ge p T.length with hp | hp
    · rw [List.getElem?_append_left hp] at ho; exact .inl ⟨hp, ho⟩
    · rw [List.getElem?_append_right hp] at ho
      have hlt := (List.getElem?_eq_some_iff.1 ho).1
      have hp0 : p = T.length := by simp at hlt; omega
      subst hp0
      simp at ho
      exact .inr ⟨rfl, ho.symm⟩
  have hown : ∀ b, Own (upd ν T.length l0) (T ++ [some ⟨.ints kk [], gg, true, et⟩]) b → Own ν T b := by
    rintro b ⟨p, o, l, h1, h2, h3, h4, h5⟩
    rcases getT p _ h1 with ⟨hp, h1⟩ | ⟨hp, h1⟩
    · rw [same p (by omega)] at h3; exact ⟨p, o, l, h1, h2, h3, h4, h5⟩
    · subst hp; rw [self] at h3; injection h3 with h3; subst h3; subst hl0; simp at h4
  refine ⟨l0, by rw [hl0], by rw [hl0], ⟨fun p o l ho hl => ?_, fun p l hl => ?_, fun p hp => ?_, fun p l hl h0 => ?_, fun p q o o' l l' ho ho' hw hne hl hl' h0 h0' => ?_, fun b d hb => ?_, fun p o l ho hl => ?_⟩, hm, hown⟩
  · rcases getT p _ ho with ⟨hp, h1⟩ | ⟨hp, h1⟩
    · rw [same p (by omega)] at hl
      obtain ⟨g1, g2⟩ := hr.obj p o l h1 hl
      exact ⟨g1, g2.kept hm fun _ => rfl⟩
    · subst hp; rw [self] at hl; injection hl with hl; subst hl; subst hl0
      injection h1 with h1; subst h1
      exact ⟨rfl, .ints _ _, .inr (.inr ⟨rfl, rfl⟩)⟩
  · by_cases e : p = T.length
    · subst e; simp
    · rw [same p e] at hl; have := hr.lt p l hl; simp; omega
  · rcases getT p _ hp with ⟨hp', h1⟩ | ⟨hp', h1⟩
    · rw [same p (by omega)]; exact hr.hole p h1
    · cases h1
  · by_cases e : p = T.length
    · subst e; rw [self] at hl; injection hl with hl; subst hl; subst hl0; simp at h0
    · rw [same p e] at hl; exact hr.blk p l hl h0
  · rcases getT p _ ho with ⟨hp, h1⟩ | ⟨hp, h1⟩
    · rcases getT q _ ho' with ⟨hq, h2⟩ | ⟨hq, h2⟩
      · rw [same p (by omega)] at hl; rw [same q (by omega)] at hl'
        exact hr.sep p q o o' l l' h1 h2 hw hne hl hl' h0 h0'
      · subst hq; rw [self] at hl'; injection hl' with hl'; subst hl'; subst hl0; simp at h0'
    · subst hp; rw [self] at hl; injection hl with hl; subst hl; subst hl0; simp at h0
  · obtain ⟨h1, h2⟩ := hr.glob b d hb
    exact ⟨fun h3 => h1 (hown b h3), h2⟩
  · rcases getT p _ ho with ⟨hp, h1⟩ | ⟨hp, h1⟩
    · rw [same p (by omega)] at hl
      exact (hr.fam p o l h1 hl).sub hown
    · injection h1 with h1; subst h1
      exact FamOk.no rfl

theorem To.outNil {E : Env} {n k : Nat} {c : Code} {fm fm1 fm2 : Fm} {T T1 : Tab} {ex : AExit} (kk : IntKind) (et : TypeId) (gg : Nat) (h : To E n k c fm T ex fm1 T1)
    (hf : ∀ t v, look fm2 t = some v → look fm1 t = some v ∨ (look fm1 t = some .nilSlice ∧ v = .slice 1 T1.length gg 0 0 none)) : To E n k c fm T ex fm2 (T1 ++ [some ⟨.ints kk [], gg, true, et⟩]) := by
  intro rr D ν a w hs hrd
  refine wpIn_mono (h rr D ν a w hs hrd) fun e a' w' ⟨ex', fm', T', ν', e1, ⟨e2, e3, e4⟩, ⟨ms, s', mk⟩, n', f'⟩ => ?_
  subst e2 e3 e4
  obtain ⟨l0, g1, g2, g3, g4, g5⟩ := s'.hr.pushEmptyG kk et gg
  refine ⟨ex', fm2, _, _, e1, ⟨rfl, rfl, rfl⟩, ⟨ms, ⟨g3, fun t v hv => ?_, s'.size, s'.defers⟩, mk⟩, n'.trans (g4.b k), f'.sub g5⟩
  rcases hf t v hv with h1 | ⟨h1, rfl⟩
  · exact (s'.fm t v h1).mono g4
  · have := s'.fm t _ h1
    generalize a'.tmps.getD t undef = x at this ⊢
    cases this
    exact .sliceZ none (upd_same _ _ _) g1.symm (.inr ⟨rfl, by rw [g2]; exact Nat.le_refl _⟩)
/-! Clone -/
noncomputable def R44 (zs : List Int) (g off n : Nat) (cp : Option Nat) (ow : Bool) : Res := resG 1 [0,1] (runF (eN0 []) f74 [] 400 [.slice 1 0 g off n cp] [some ⟨.ints .u8 zs, g, ow, 5⟩] [some false])
theorem R44_ok {zs : List Int} {g off n : Nat} {cp : Option Nat} {ow : Bool} (h : allP [.eqN g g, .leN 1 n, .p (false = false), .leN n 140737488355328, .eqN g g, .leN (off + n) zs.length]) : OkR (R44 zs g off n cp ow) := OkR.dem (fl := [false, false, false, true, true, true, false, false, false, true]) (by kernel_rfl) (by kernel_rfl) (by kernel_rfl) h
theorem R44_val {zs : List Int} {g off n : Nat} {cp : Option Nat} {ow : Bool} : (R44 zs g off n cp ow).val = .slice 1 1 1 0 n none := by kernel_rfl
theorem R44_tab {zs : List Int} {g off n : Nat} {cp : Option Nat} {ow : Bool} : (R44 zs g off n cp ow).tab = [some ⟨.ints .u8 zs, g, ow, 5⟩, some ⟨.ints .u8 ([] ++ List.take n (dropO off zs)), 1, true, 5⟩] := by kernel_rfl
noncomputable def c44a : Code := match bodyOf f74 with | .seq _ (.seq (.seq r _) _) => r | c => c
noncomputable def r44ops : Array Oper := match c44a with | .region _ o _ => o | _ => #[]
noncomputable def r44a : Code := match bodyOf f74 with | .seq r _ => r | c => c
noncomputable def r44b : Code := match bodyOf f74 with | .seq _ (.seq (.seq _ c) _) => c | c => c
noncomputable def r44c : Code := match bodyOf f74 with | .seq _ (.seq (.seq _ _) c) => c | c => c
theorem split44 : bodyOf f74 = .seq r44a (.seq (.seq (.region 1 r44ops false) r44b) r44c) := by kernel_rfl
noncomputable def P44 (zs : List Int) (g off n : Nat) (cp : Option Nat) (ow : Bool) : Out := trim 1 1 [0] (run (eN0 []) 8 ⟨1, []⟩ 400 r44a [(0, .slice 1 0 g off n cp)] [some ⟨.ints .u8 zs, g, ow, 5⟩] [])
theorem P44_ok {zs : List Int} {g off n : Nat} {cp : Option Nat} {ow : Bool} (h : allP []) : Ok (P44 zs g off n cp ow) := Ok.dem (fl := []) (by kernel_rfl) (by kernel_rfl) (by kernel_rfl) h
theorem P44_ex {zs : List Int} {g off n : Nat} {cp : Option Nat} {ow : Bool} : (P44 zs g off n cp ow).ex = .normal := by kernel_rfl
theorem P44_fm {zs : List Int} {g off n : Nat} {cp : Option Nat} {ow : Bool} : (P44 zs g off n cp ow).fm = [(0, .slice 1 0 g off n cp)] := by kernel_rfl
theorem P44_tab {zs : List Int} {g off n : Nat} {cp : Option Nat} {ow : Bool} : (P44 zs g off n cp ow).tab = [some ⟨.ints .u8 zs, g, ow, 5⟩] := by kernel_rfl
noncomputable def Q44 (zs : List Int) (g off n : Nat) (cp : Option Nat) (ow : Bool) : Out := runOps (eN0 []) r44ops.toList 8 (r44ops.toList.take 1) [(0, .slice 1 0 g off n cp)] (([some ⟨.ints .u8 zs, g, ow, 5⟩] : Tab) ++ holes (cntA (eN0 []) (r44ops.toList.take 1))) ([some ⟨.ints .u8 zs, g, ow, 5⟩] : Tab).length []
theorem Q44_ok {zs : List Int} {g off n : Nat} {cp : Option Nat} {ow : Bool} (h : allP []) : Ok (Q44 zs g off n cp ow) := Ok.dem (fl := []) (by kernel_rfl) (by kernel_rfl) (by kernel_rfl) h
theorem Q44_fm {zs : List Int} {g off n : Nat} {cp : Option Nat} {ow : Bool} : (Q44 zs g off n cp ow).fm = [(3, .slice 1 0 g off n cp), (0, .slice 1 0 g off n cp)] := by kernel_rfl
theorem Q44_tab {zs : List Int} {g off n : Nat} {cp : Option Nat} {ow : Bool} : (Q44 zs g off n cp ow).tab = [some ⟨.ints .u8 zs, g, ow, 5⟩] := by kernel_rfl
noncomputable def U44 (zs : List Int) (g off n : Nat) (cp : Option Nat) (ow : Bool) : Out := trim 1 1 [2] (run (eN0 []) 8 ⟨1, []⟩ 400 r44b [(0, .slice 1 0 g off n cp), (4, .bool true)] [some ⟨.ints .u8 zs, g, ow, 5⟩] [])
theorem U44_ok {zs : List Int} {g off n : Nat} {cp : Option Nat} {ow : Bool} (h : allP []) : Ok (U44 zs g off n cp ow) := Ok.dem (fl := []) (by kernel_rfl) (by kernel_rfl) (by kernel_rfl) h
theorem U44_ex {zs : List Int} {g off n : Nat} {cp : Option Nat} {ow : Bool} : (U44 zs g off n cp ow).ex = .ret := by kernel_rfl
theorem U44_fm {zs : List Int} {g off n : Nat} {cp : Option Nat} {ow : Bool} : (U44 zs g off n cp ow).fm = [(2, .nilSlice)] := by kernel_rfl
theorem U44_tab {zs : List Int} {g off n : Nat} {cp : Option Nat} {ow : Bool} : (U44 zs g off n cp ow).tab = [some ⟨.ints .u8 zs, g, ow, 5⟩] := by kernel_rfl
noncomputable def W44 (zs : List Int) (g off n : Nat) (cp : Option Nat) (ow : Bool) : Out := trim 1 1 [0] (run (eN0 []) 8 ⟨1, []⟩ 400 r44b [(0, .slice 1 0 g off n cp), (4, .bool false)] [some ⟨.ints .u8 zs, g, ow, 5⟩] [])
theorem W44_ok {zs : List Int} {g off n : Nat} {cp : Option Nat} {ow : Bool} (h : allP []) : Ok (W44 zs g off n cp ow) := Ok.dem (fl := []) (by kernel_rfl) (by kernel_rfl) (by kernel_rfl) h
theorem W44_ex {zs : List Int} {g off n : Nat} {cp : Option Nat} {ow : Bool} : (W44 zs g off n cp ow).ex = .normal := by kernel_rfl
theorem W44_fm {zs : List Int} {g off n : Nat} {cp : Option Nat} {ow : Bool} : (W44 zs g off n cp ow).fm = [(0, .slice 1 0 g off n cp)] := by kernel_rfl
theorem W44_tab {zs : List Int} {g off n : Nat} {cp : Option Nat} {ow : Bool} : (W44 zs g off n cp ow).tab = [some ⟨.ints .u8 zs, g, ow, 5⟩] := by kernel_rfl
noncomputable def Y44 (zs : List Int) (g off n : Nat) (cp : Option Nat) (ow : Bool) : Out := trimG 1 [0,1] [2] (run (eN0 []) 8 ⟨1, []⟩ 400 r44c [(0, .slice 1 0 g off n cp)] [some ⟨.ints .u8 zs, g, ow, 5⟩] [])
theorem Y44_ok {zs : List Int} {g off n : Nat} {cp : Option Nat} {ow : Bool} (h : allP [.leN n 140737488355328, .eqN g g, .leN (off + n) zs.length]) : Ok (Y44 zs g off n cp ow) := Ok.dem (fl := [true, true, true, false, false, false, true]) (by kernel_rfl) (by kernel_rfl) (by kernel_rfl) h
theorem Y44_ex {zs : List Int} {g off n : Nat} {cp : Option Nat} {ow : Bool} : (Y44 zs g off n cp ow).ex = .ret := by kernel_rfl
theorem Y44_fm {zs : List Int} {g off n : Nat} {cp : Option Nat} {ow : Bool} : (Y44 zs g off n cp ow).fm = [(2, .slice 1 1 1 0 n none)] := by kernel_rfl
theorem Y44_tab {zs : List Int} {g off n : Nat} {cp : Option Nat} {ow : Bool} : (Y44 zs g off n cp ow).tab = [some ⟨.ints .u8 zs, g, ow, 5⟩, some ⟨.ints .u8 ([] ++ List.take n (dropO off zs)), 1, true, 5⟩] := by kernel_rfl
theorem eq44 : ∃ oy : Oper, r44ops.toList = r44ops.toList.take 1 ++ [oy] ∧ oy.op = .binOp .eql 22 (.tmp 3) (.const (.slice none 0 0)) 22 ∧ oy.guard = none ∧ oy.dst = some 4 := ⟨r44ops.toList.getD 1 default, by kernel_rfl, by kernel_rfl, by kernel_rfl, by kernel_rfl⟩
noncomputable def sm44c (args : List AVal) (T : Tab) (zs : List Int) (g : Nat) (off : Nat) (n : Nat) (cp : Option Nat) (ow : Bool) : Res := ⟨[.tab T [some ⟨.ints .u8 zs, g, ow, 5⟩], .val (.tuple args) (.tuple [.slice 1 0 g off n cp]), .leN (off + n) zs.length, .leN n 140737488355000], .slice 1 1 1 0 n none, [some ⟨.ints .u8 zs, g, ow, 5⟩, some ⟨.ints .u8 (subLaw zs off n), 1, true, 5⟩]⟩
theorem sm44c_ok {args : List AVal} {T : Tab} {zs : List Int} {g : Nat} {off : Nat} {n : Nat} {cp : Option Nat} {ow : Bool} (h : allP (sm44c args T zs g off n cp ow).cs) : Small prog (fun _ => none) 74 args T (sm44c args T zs g off n cp ow).val (sm44c args T zs g off n cp ow).tab := by
  obtain ⟨hT, hv, h1, h2, _⟩ := h
  simp only [Con.h] at hT hv h1 h2
  injection hv with hv
  subst hT hv
  by_cases hn : 1 ≤ n
  · refine small_ofG (R := R44 zs g off n cp ow) (keep := [0,1]) eN0_ok hmN (f := 74) (fn := f74) (by kernel_rfl) (by kernel_rfl) FnOrc.nil rfl (R44_ok ?_) R44_val (by rw [R44_tab]; simp only [dropO_eq, List.nil_append]; rfl)
    simp only [allP, Con.h, hn, h1, eq_self, true_and, and_true]
    omega
  · obtain rfl : n = 0 := by omega
    have hs0 : subLaw zs off 0 = [] := by unfold subLaw; exact List.take_zero
    obtain ⟨oy, q1, q2, q3, q4⟩ := eq44
    refine small_of_awp eN0_ok (f := 74) (fn := f74) (c := bodyOf f74) (by kernel_rfl) (by kernel_rfl) (by kernel_rfl) ?_
    rw [split44]
    show AWp (eN0 []) 8 1 _ [(0, .slice 1 0 g off 0 cp)] _ _
    refine AWp.seq (AWp.mono (To.of (o := P44 zs g off 0 cp ow) eN0_ok hmN (Nat.le_refl 1) OrcOk.nil rfl (P44_ok trivial) P44_ex P44_fm P44_tab) fun ex fm T hP => ?_)
    obtain ⟨rfl, rfl, rfl⟩ := hP
    refine AWp.seq (AWp.seq (AWp.eqNil eN0_ok q1 (ds1 := []) (o1 := Q44 zs g off 0 cp ow) rfl (Q44_ok trivial) q2 q3 q4 (by decide) (e := 5) (by kernel_rfl) (sz := 1) (p := 0) (g := g) (off := off) (len := 0) (cap := cp) (o := ⟨.ints .u8 zs, g, ow, 5⟩) (by rw [Q44_fm]; rfl) (by kernel_rfl) (by rw [Q44_tab]; rfl) rfl (fun b => ?_)))
    rw [Q44_fm, Q44_tab]
    cases b with
    | true =>
      refine AWp.mono (To.outNil (fm2 := [(2, .slice 1 1 1 0 0 none)]) .u8 5 1 (AWp.fmSub (f := [(0, .slice 1 0 g off 0 cp), (4, .bool true)]) ⟨rfl, rfl, trivial⟩ (To.of (o := U44 zs g off 0 cp ow) eN0_ok hmN (Nat.le_refl 1) OrcOk.nil rfl (U44_ok trivial) U44_ex U44_fm U44_tab)) (fun t v hv => ?_)) fun ex fm T hP => ?_
      · simp only [look] at hv
        split at hv
        · rename_i e
          have := Nat.eq_of_beq_eq_true e
          subst this
          injection hv with hv; subst hv
          exact .inr ⟨rfl, rfl⟩
        · cases hv
      · obtain ⟨rfl, rfl, rfl⟩ := hP
        refine ⟨.inr rfl, ?_, _, _, rfl, trivial, rfl⟩
        show _ = [_, some (⟨.ints .u8 (subLaw zs off 0), 1, true, 5⟩ : AObj)]
        rw [hs0]; rfl
    | false =>
      refine AWp.mono (AWp.fmSub (f := [(0, .slice 1 0 g off 0 cp), (4, .bool false)]) ⟨rfl, rfl, trivial⟩ (To.of (o := W44 zs g off 0 cp ow) eN0_ok hmN (Nat.le_refl 1) OrcOk.nil rfl (W44_ok trivial) W44_ex W44_fm W44_tab)) fun ex fm T hP => ?_
      obtain ⟨rfl, rfl, rfl⟩ := hP
      refine AWp.mono (To.ofG (o := Y44 zs g off 0 cp ow) eN0_ok hmN (Nat.le_refl 1) OrcOk.nil rfl (Y44_ok (by simp only [allP, Con.h, h1, eq_self, true_and, and_true]; omega)) Y44_ex Y44_fm Y44_tab) fun ex fm T hP => ?_
      obtain ⟨rfl, rfl, rfl⟩ := hP
      refine ⟨.inr rfl, ?_, _, _, rfl, trivial, rfl⟩
      show [_, some (⟨.ints .u8 ([] ++ List.take 0 (dropO off zs)), 1, true, 5⟩ : AObj)] = [_, some (⟨.ints .u8 (subLaw zs off 0), 1, true, 5⟩ : AObj)]
      rw [hs0, List.take_zero]; rfl
noncomputable def sm44 : Summary := fun args T => sm44c args T (xsAt T 0) (gAt T 0) (offOf (vAt args 0)) (lenOf (vAt args 0)) (capOf (vAt args 0)) (owAt T 0)
theorem sm44_ok : SmOk prog (fun _ => none) 74 sm44 := fun args T h => sm44c_ok h
noncomputable def S44r : Summary := callR sm44 []
theorem S44r_ok : SumOk prog (fun _ => none) 74 S44r := callR_ok sm44_ok []
end Go.Abs

set_option linter.unusedVariables false
set_option linter.unusedSimpArgs false
set_option maxRecDepth 100000
set_option maxHeartbeats 4000000
namespace Go.Abs
open Go.Proofs Go.Proofs.Try
/-! ### the reader: Take, Vector, End -/
noncomputable def eR3 : Env := eN0 [(78, S35), (74, S44r)]
theorem eR3_ok : EnvOk eR3 := envOf_ok tysN_ok (SumsOk.cons (fn := f78) S35_ok (by kernel_rfl) (by kernel_rfl) (by kernel_rfl) (SumsOk.cons (fn := f74) S44r_ok (by kernel_rfl) (by kernel_rfl) (by kernel_rfl) trivial))
noncomputable def R31e (B : List Int) (g gR off n : Nat) (e m : Int) : Res := runF eR3 f80 [] 400 [.var 0 gR, .int .i64 m] [some ⟨.agg [.slice 1 1 g off n none, .int .i64 e, .bool true], gR, true, 115⟩, some ⟨.ints .u8 B, g, false, 5⟩] [some true]
theorem R31e_ok {B : List Int} {g gR off n : Nat} {e m : Int} (h : allP [.eqN gR gR, .eqN g g, .eqN gR gR, .eqN gR gR, .eqN gR gR, .eqN gR gR, .eqN gR gR, .eqN gR gR, .eqN gR gR, .p ((e != 0) = true)]) : OkR (R31e B g gR off n e m) := OkR.dem (fl := bitsF 12 1088) (by kernel_rfl) (by kernel_rfl) (by kernel_rfl) h
theorem R31e_val {B : List Int} {g gR off n : Nat} {e m : Int} : (R31e B g gR off n e m).val = .nilSlice := by kernel_rfl
theorem R31e_tab {B : List Int} {g gR off n : Nat} {e m : Int} : (R31e B g gR off n e m).tab = [some ⟨.agg [.slice 1 1 g off n none, .int .i64 e, .bool true], gR, true, 115⟩, some ⟨.ints .u8 B, g, false, 5⟩] := by kernel_rfl
noncomputable def R31a (B : List Int) (g gR off n : Nat) (m : Int) : Res := runF eR3 f80 [] 400 [.var 0 gR, .int .i64 m] [some ⟨.agg [.slice 1 1 g off n none, .int .i64 0, .bool true], gR, true, 115⟩, some ⟨.ints .u8 B, g, false, 5⟩] [none, some true]
theorem R31a_ok {B : List Int} {g gR off n : Nat} {m : Int} (h : allP [.eqN gR gR, .eqN g g, .eqN gR gR, .eqN gR gR, .eqN gR gR, .eqN gR gR, .eqN gR gR, .eqN gR gR, .eqN gR gR, .p (decide (m < 0) = true), .eqN gR gR, .eqN gR gR, .eqN gR gR]) : OkR (R31a B g gR off n m) := OkR.dem (fl := bitsF 18 230464) (by kernel_rfl) (by kernel_rfl) (by kernel_rfl) h
theorem R31a_val {B : List Int} {g gR off n : Nat} {m : Int} : (R31a B g gR off n m).val = .nilSlice := by kernel_rfl
theorem R31a_tab {B : List Int} {g gR off n : Nat} {m : Int} : (R31a B g gR off n m).tab = [some ⟨.agg [.slice 1 1 g off n none, .int .i64 1, .bool true], gR, true, 115⟩, some ⟨.ints .u8 B, g, false, 5⟩] := by kernel_rfl
noncomputable def R31s (B : List Int) (g gR off n : Nat) (m : Int) : Res := runF eR3 f80 [] 400 [.var 0 gR, .int .i64 m] [some ⟨.agg [.slice 1 1 g off n none, .int .i64 0, .bool true], gR, true, 115⟩, some ⟨.ints .u8 B, g, false, 5⟩] [none, some false, some true]
theorem R31s_ok {B : List Int} {g gR off n : Nat} {m : Int} (h : allP [.eqN gR gR, .eqN g g, .eqN gR gR, .eqN gR gR, .eqN gR gR, .eqN gR gR, .eqN gR gR, .eqN gR gR, .eqN gR gR, .p (decide (m < 0) = false), .eqN gR gR, .eqN gR gR, .eqN gR gR, .eqN g g, .p (decide ((↑n : Int) < m) = true), .eqN gR gR, .eqN gR gR, .eqN gR gR]) : OkR (R31s B g gR off n m) := OkR.dem (fl := bitsF 24 14713920) (by
 kernel_rfl) (by kernel_rfl) (by kernel_rfl) h
theorem R31s_val {B : List Int} {g gR off n : Nat} {m : Int} : (R31s B g gR off n m).val = .nilSlice := by kernel_rfl
theorem R31s_tab {B : List Int} {g gR off n : Nat} {m : Int} : (R31s B g gR off n m).tab = [some ⟨.agg [.slice 1 1 g off n none, .int .i64 20, .bool true], gR, true, 115⟩, some ⟨.ints .u8 B, g, false, 5⟩] := by kernel_rfl
noncomputable def R31g (B : List Int) (g gR off n : Nat) (m : Nat) : Res := resG 2 [0,1,2] (runF eR3 f80 [] 400 [.var 0 gR, .int .i64 (m : Nat)] [some ⟨.agg [.slice 1 1 g off n none, .int .i64 0, .bool true], gR, true, 115⟩, some ⟨.ints .u8 B, g, false, 5⟩] [none, some false, some false])
theorem R31g_ok {B : List Int} {g gR off n : Nat} {m : Nat} (h : allP [.eqN gR gR, .eqN g g, .eqN gR gR, .eqN gR gR, .eqN gR gR, .eqN gR gR, .eqN gR gR, .eqN gR gR, .eqN gR gR, .p (false = false), .eqN gR gR, .eqN gR gR, .eqN gR gR, .eqN g g, .p (decide ((↑n : Int) < (↑m : Int)) = false), .eqN gR gR, .eqN gR gR, .eqN gR gR, .leI 0 (↑m : Int), .eqN g g, .leN 0 m, .orN m n (off + m) B.length, .eqN g
 g, .leN (addO off 0 + m) B.length, .leN m 140737488355000, .eqN gR gR, .eqN gR gR, .eqN gR gR, .leI 0 (↑m : Int), .eqN g g, .leN m n, .eqN gR gR, .eqN gR gR, .eqN gR gR]) : OkR (R31g B g gR off n m) := OkR.dem (fl := bitsF 44 15410344789056) (by kernel_rfl) (by kernel_rfl) (by kernel_rfl) h
theorem R31g_val {B : List Int} {g gR off n : Nat} {m : Nat} : (R31g B g gR off n m).val = .slice 1 2 1 0 m none := by kernel_rfl
theorem R31g_tab {B : List Int} {g gR off n : Nat} {m : Nat} : (R31g B g gR off n m).tab = [some ⟨.agg [.slice 1 1 g (addO off m) (subO n m) none, .int .i64 0, .bool true], gR, true, 115⟩, some ⟨.ints .u8 B, g, false, 5⟩, some ⟨.ints .u8 (subLaw B (addO off 0) m), 1, true, 5⟩] := by kernel_rfl
noncomputable def eR4 : Env := eN0 [(78, S35)]
theorem eR4_ok : EnvOk eR4 := envOf_ok tysN_ok (SumsOk.cons (fn := f78) S35_ok (by kernel_rfl) (by kernel_rfl) (by kernel_rfl) trivial)
noncomputable def R36e (B : List Int) (g gR off n : Nat) (e : Int) : Res := runF eR4 f75 [] 400 [.var 0 gR] [some ⟨.agg [.slice 1 1 g off n none, .int .i64 e, .bool true], gR, true, 115⟩, some ⟨.ints .u8 B, g, false, 5⟩] [some true]
theorem R36e_ok {B : List Int} {g gR off n : Nat} {e : Int} (h : allP [.eqN gR gR, .eqN g g, .eqN gR gR, .eqN gR gR, .eqN gR gR, .eqN gR gR, .eqN gR gR, .eqN gR gR, .eqN gR gR, .p ((e != 0) = true)]) : OkR (R36e B g gR off n e) := OkR.dem (fl := bitsF 12 1088) (by kernel_rfl) (by kernel_rfl) (by kernel_rfl) h
theorem R36e_val {B : List Int} {g gR off n : Nat} {e : Int} : (R36e B g gR off n e).val = .int .i64 e := by kernel_rfl
theorem R36e_tab {B : List Int} {g gR off n : Nat} {e : Int} : (R36e B g gR off n e).tab = [some ⟨.agg [.slice 1 1 g off n none, .int .i64 e, .bool true], gR, true, 115⟩, some ⟨.ints .u8 B, g, false, 5⟩] := by kernel_rfl
noncomputable def R36m (B : List Int) (g gR off n : Nat) : Res := runF eR4 f75 [] 400 [.var 0 gR] [some ⟨.agg [.slice 1 1 g off n none, .int .i64 0, .bool true], gR, true, 115⟩, some ⟨.ints .u8 B, g, false, 5⟩] [none, some true]
theorem R36m_ok {B : List Int} {g gR off n : Nat} (h : allP [.eqN gR gR, .eqN g g, .eqN gR gR, .eqN gR gR, .eqN gR gR, .eqN gR gR, .eqN gR gR, .eqN gR gR, .eqN gR gR, .eqN gR gR, .eqN gR gR, .eqN gR gR, .eqN g g, .p (decide (0 < (↑n : Int)) = true)]) : OkR (R36m B g gR off n) := OkR.dem (fl := bitsF 17 17472) (by kernel_rfl) (by kernel_rfl) (by kernel_rfl) h
theorem R36m_val {B : List Int} {g gR off n : Nat} : (R36m B g gR off n).val = .int .i64 21 := by kernel_rfl
theorem R36m_tab {B : List Int} {g gR off n : Nat} : (R36m B g gR off n).tab = [some ⟨.agg [.slice 1 1 g off n none, .int .i64 0, .bool true], gR, true, 115⟩, some ⟨.ints .u8 B, g, false, 5⟩] := by kernel_rfl
noncomputable def R36z (B : List Int) (g gR off n : Nat) : Res := runF eR4 f75 [] 400 [.var 0 gR] [some ⟨.agg [.slice 1 1 g off n none, .int .i64 0, .bool true], gR, true, 115⟩, some ⟨.ints .u8 B, g, false, 5⟩] [none, some false]
theorem R36z_ok {B : List Int} {g gR off n : Nat} (h : allP [.eqN gR gR, .eqN g g, .eqN gR gR, .eqN gR gR, .eqN gR gR, .eqN gR gR, .eqN gR gR, .eqN gR gR, .eqN gR gR, .eqN gR gR, .eqN gR gR, .eqN gR gR, .eqN g g, .p (decide (0 < (↑n : Int)) = false)]) : OkR (R36z B g gR off n) := OkR.dem (fl := bitsF 17 17472) (by kernel_rfl) (by kernel_rfl) (by kernel_rfl) h
theorem R36z_val {B : List Int} {g gR off n : Nat} : (R36z B g gR off n).val = .int .i64 0 := by kernel_rfl
theorem R36z_tab {B : List Int} {g gR off n : Nat} : (R36z B g gR off n).tab = [some ⟨.agg [.slice 1 1 g off n none, .int .i64 0, .bool true], gR, true, 115⟩, some ⟨.ints .u8 B, g, false, 5⟩] := by kernel_rfl
end Go.Abs

set_option linter.unusedVariables false
set_option linter.unusedSimpArgs false
set_option maxRecDepth 100000
set_option maxHeartbeats 4000000
namespace Go.Abs
open Go.Proofs Go.Proofs.Try
/-! ### what a reader's Take and End answer -/
theorem small_nilG {P : Program} {gl : Nat → Option AVal} {f : FuncId} {args : List AVal} {T0 T1 : Tab} (kk : IntKind) (et : TypeId) (gg : Nat) (h : Small P gl f args T0 .nilSlice T1) (hk : T0.length ≤ T1.length) :
    Small P gl f args T0 (.slice 1 T1.length gg 0 0 none) (T1 ++ [some ⟨.ints kk [], gg, true, et⟩]) := by
  intro ν w vs hr hvs
  refine (h ν w vs hr hvs).mono ?_
  rintro e w' ⟨x, ν', rfl, h1, h2, h3, h4⟩
  obtain ⟨l0, g1, g2, g3, g4, g5⟩ := h2.pushEmptyG kk et gg
  refine ⟨x, upd ν' T1.length l0, rfl, ?_, g3, h3.trans (g4.b _), h4.sub g5⟩
  cases h1
  exact .sliceZ none (upd_same _ _ _) g1.symm (.inr ⟨rfl, by rw [g2]; exact Nat.le_refl _⟩)
def rtP (B : List Int) (off : Nat) (e m : Int) : List Int × Nat × Int :=
  if e ≠ 0 then ([], off, e) else if m < 0 then ([], off, 1) else if ((B.length - off : Nat) : Int) < m then ([], off, 20) else (subLaw B off m.toNat, off + m.toNat, 0)
def rtVLaw (B : List Int) (off : Nat) (e m : Int) : List Int := (rtP B off e m).1
def rtOLaw (B : List Int) (off : Nat) (e m : Int) : Nat := (rtP B off e m).2.1
def rtELaw (B : List Int) (off : Nat) (e m : Int) : Int := (rtP B off e m).2.2
theorem rt_e {B : List Int} {off : Nat} {e : Int} (m : Int) (h : e ≠ 0) : rtP B off e m = ([], off, e) := if_pos h
theorem rt_a {B : List Int} {off : Nat} {m : Int} (h : m < 0) : rtP B off 0 m = ([], off, 1) := by unfold rtP; rw [if_neg (by decide), if_pos h]
theorem rt_s {B : List Int} {off : Nat} {m : Int} (h : ¬ m < 0) (h2 : ((B.length - off : Nat) : Int) < m) : rtP B off 0 m = ([], off, 20) := by unfold rtP; rw [if_neg (by decide), if_neg h, if_pos h2]
theorem rt_g {B : List Int} {off m : Nat} (h2 : ¬ ((B.length - off : Nat) : Int) < m) : rtP B off 0 m = (subLaw B off m, off + m, 0) := by unfold rtP; rw [if_neg (by decide), if_neg (by omega), if_neg h2]; rfl
def reLaw (B : List Int) (off : Nat) (e : Int) : Int := if e ≠ 0 then e else if 0 < B.length - off then 21 else 0
noncomputable def sm31c (args : List AVal) (T : Tab) (B : List Int) (g : Nat) (gR : Nat) (off : Nat) (n : Nat) (e : Int) (m : Int) : Res := ⟨[.tab T [some ⟨.agg [.slice 1 1 g off n none, .int .i64 e, .bool true], gR, true, 115⟩, some ⟨.ints .u8 B, g, false, 5⟩], .val (.tuple args) (.tuple [.var 0 gR, .int .i64 m]), .eqN n (B.length - off), .leN off B.length, .p (ByLaw B), .leN B.length 140737488355000], .slice 1 2 1 0 (rtVLaw B off e m).length none, [some ⟨.agg [.slice 1 1 g (rtOLaw B off e m) (B.length - rtOLaw B off e m) none, .int .i64 (rtELaw B off e m), .bool true], gR, true, 115⟩, some ⟨.ints .u8 B, g, false, 5⟩, some ⟨.ints .u8 (rtVLaw B off e m), 1, true, 5⟩]⟩
theorem sm31c_ok {args : List AVal} {T : Tab} {B : List Int} {g : Nat} {gR : Nat} {off : Nat} {n : Nat} {e : Int} {m : Int} (h : allP (sm31c args T B g gR off n e m).cs) : Small prog (fun _ => none) 80 args T (sm31c args T B g gR off n e m).val (sm31c args T B g gR off n e m).tab := by
  obtain ⟨hT, hv, h1, h2, h3, h4, _⟩ := h
  simp only [Con.h] at hT hv h1 h2 h3 h4
  injection hv with hv
  subst hT hv
  show Small prog (fun _ => none) 80 [.var 0 gR, .int .i64 m] [some ⟨.agg [.slice 1 1 g off n none, .int .i64 e, .bool true], gR, true, 115⟩, some ⟨.ints .u8 B, g, false, 5⟩] (.slice 1 2 1 0 (rtVLaw B off e m).length none) [some ⟨.agg [.slice 1 1 g (rtOLaw B off e m) (B.length - rtOLaw B off e m) none, .int .i64 (rtELaw B off e m), .bool true], gR, true, 115⟩, some ⟨.ints .u8 B, g, false, 5⟩, some ⟨.ints .u8 (rtVLaw B off e m), 1, true, 5⟩]
  have hb : ByLaw B := h3
  subst h1
  by_cases he : e = 0
  rotate_left
  · have hr := rt_e (B := B) (off := off) m he
    have hne : (e != 0) = true := bne_iff_ne.2 he
    simp only [rtVLaw, rtOLaw, rtELaw, hr]
    have hc : Small prog (fun _ => none) 80 [.var 0 gR, .int .i64 m] [some ⟨.agg [.slice 1 1 g off (B.length - off) none, .int .i64 e, .bool true], gR, true, 115⟩, some ⟨.ints .u8 B, g, false, 5⟩] .nilSlice [some ⟨.agg [.slice 1 1 g off (B.length - off) none, .int .i64 e, .bool true], gR, true, 115⟩, some ⟨.ints .u8 B, g, false, 5⟩] := by
      refine small_of (R := R31e B g gR off (B.length - off) e m) eR3_ok hmN (f := 80) (fn := f80) (by kernel_rfl) (by kernel_rfl) FnOrc.nil rfl (R31e_ok ?_) R31e_val R31e_tab
      simp only [allP, Con.h, hne, not_false_eq_true, eq_self, true_and, and_true]
    exact small_nilG .u8 5 1 hc (Nat.le_refl 2)
  subst he
  by_cases hm : m < 0
  · have hr := rt_a (B := B) (off := off) hm
    simp only [rtVLaw, rtOLaw, rtELaw, hr]
    have hc : Small prog (fun _ => none) 80 [.var 0 gR, .int .i64 m] [some ⟨.agg [.slice 1 1 g off (B.length - off) none, .int .i64 0, .bool true], gR, true, 115⟩, some ⟨.ints .u8 B, g, false, 5⟩] .nilSlice [some ⟨.agg [.slice 1 1 g off (B.length - off) none, .int .i64 1, .bool true], gR, true, 115⟩, some ⟨.ints .u8 B, g, false, 5⟩] := by
      refine small_of (R := R31a B g gR off (B.length - off) m) eR3_ok hmN (f := 80) (fn := f80) (by kernel_rfl) (by kernel_rfl) FnOrc.nil rfl (R31a_ok ?_) R31a_val R31a_tab
      simp only [allP, Con.h, hm, decide_eq_true_eq, decide_eq_false_iff_not, not_false_eq_true, eq_self, true_and, and_true]
    exact small_nilG .u8 5 1 hc (Nat.le_refl 2)
  by_cases hl : ((B.length - off : Nat) : Int) < m
  · have hr := rt_s hm hl
    simp only [rtVLaw, rtOLaw, rtELaw, hr]
    have hc : Small prog (fun _ => none) 80 [.var 0 gR, .int .i64 m] [some ⟨.agg [.slice 1 1 g off (B.length - off) none, .int .i64 0, .bool true], gR, true, 115⟩, some ⟨.ints .u8 B, g, false, 5⟩] .nilSlice [some ⟨.agg [.slice 1 1 g off (B.length - off) none, .int .i64 20, .bool true], gR, true, 115⟩, some ⟨.ints .u8 B, g, false, 5⟩] := by
      refine small_of (R := R31s B g gR off (B.length - off) m) eR3_ok hmN (f := 80) (fn := f80) (by kernel_rfl) (by kernel_rfl) FnOrc.nil rfl (R31s_ok ?_) R31s_val R31s_tab
      simp only [allP, Con.h, hm, hl, decide_eq_true_eq, decide_eq_false_iff_not, not_false_eq_true, eq_self, true_and, and_true]
    exact small_nilG .u8 5 1 hc (Nat.le_refl 2)
  obtain ⟨k, rfl⟩ : ∃ k : Nat, m = (k : Nat) := ⟨m.toNat, by omega⟩
  have hr := rt_g hl
  have hk : (subLaw B off k).length = k := subLaw_len (by omega)
  simp only [rtVLaw, rtOLaw, rtELaw, hr]
  refine small_ofG (R := R31g B g gR off (B.length - off) k) (keep := [0,1,2]) eR3_ok hmN (f := 80) (fn := f80) (by kernel_rfl) (by kernel_rfl) FnOrc.nil rfl (R31g_ok ?_) (by rw [R31g_val, hk]) (by rw [R31g_tab]; simp only [addO_eq, subO_eq, Nat.add_zero, Nat.sub_sub]; try rfl)
  simp only [allP, Con.h, addO_eq, Nat.add_zero, decide_eq_true_eq, decide_eq_false_iff_not, not_false_eq_true, eq_self, true_and, and_true]
  omega
noncomputable def sm31 : Summary := fun args T => sm31c args T (xsAt T 1) (gAt T 1) (gAt T 0) (offOf (cAt T 0 0)) (lenOf (cAt T 0 0)) (iOf (cAt T 0 1)) (iOf (vAt args 1))
theorem sm31_ok : SmOk prog (fun _ => none) 80 sm31 := fun args T h => sm31c_ok h
noncomputable def S31r : Summary := callR sm31 [true]
theorem S31r_ok : SumOk prog (fun _ => none) 80 S31r := callR_ok sm31_ok [true]
noncomputable def sm36c (args : List AVal) (T : Tab) (B : List Int) (g : Nat) (gR : Nat) (off : Nat) (n : Nat) (e : Int) : Res := ⟨[.tab T [some ⟨.agg [.slice 1 1 g off n none, .int .i64 e, .bool true], gR, true, 115⟩, some ⟨.ints .u8 B, g, false, 5⟩], .val (.tuple args) (.tuple [.var 0 gR]), .eqN n (B.length - off)], .int .i64 (reLaw B off e), [some ⟨.agg [.slice 1 1 g off n none, .int .i64 e, .bool true], gR, true, 115⟩, some ⟨.ints .u8 B, g, false, 5⟩]⟩
theorem sm36c_ok {args : List AVal} {T : Tab} {B : List Int} {g : Nat} {gR : Nat} {off : Nat} {n : Nat} {e : Int} (h : allP (sm36c args T B g gR off n e).cs) : Small prog (fun _ => none) 75 args T (sm36c args T B g gR off n e).val (sm36c args T B g gR off n e).tab := by
  obtain ⟨hT, hv, h1, _⟩ := h
  simp only [Con.h] at hT hv h1
  injection hv with hv
  subst hT hv
  show Small prog (fun _ => none) 75 [.var 0 gR] [some ⟨.agg [.slice 1 1 g off n none, .int .i64 e, .bool true], gR, true, 115⟩, some ⟨.ints .u8 B, g, false, 5⟩] (.int .i64 (reLaw B off e)) [some ⟨.agg [.slice 1 1 g off n none, .int .i64 e, .bool true], gR, true, 115⟩, some ⟨.ints .u8 B, g, false, 5⟩]
  subst h1
  by_cases he : e = 0
  rotate_left
  · have hne : (e != 0) = true := bne_iff_ne.2 he
    rw [show reLaw B off e = e from if_pos he]
    refine small_of (R := R36e B g gR off (B.length - off) e) eR4_ok hmN (f := 75) (fn := f75) (by kernel_rfl) (by kernel_rfl) FnOrc.nil rfl (R36e_ok ?_) R36e_val R36e_tab
    simp only [allP, Con.h, hne, not_false_eq_true, eq_self, true_and, and_true]
  subst he
  by_cases hl : 0 < B.length - off
  · rw [show reLaw B off 0 = 21 by unfold reLaw; rw [if_neg (by decide), if_pos hl]]
    refine small_of (R := R36m B g gR off (B.length - off)) eR4_ok hmN (f := 75) (fn := f75) (by kernel_rfl) (by kernel_rfl) FnOrc.nil rfl (R36m_ok ?_) R36m_val R36m_tab
    simp only [allP, Con.h, decide_eq_true_eq, decide_eq_false_iff_not, not_false_eq_true, eq_self, true_and, and_true]
    omega
  · rw [show reLaw B off 0 = 0 by unfold reLaw; rw [if_neg (by decide), if_neg hl]]
    refine small_of (R := R36z B g gR off (B.length - off)) eR4_ok hmN (f := 75) (fn := f75) (by kernel_rfl) (by kernel_rfl) FnOrc.nil rfl (R36z_ok ?_) R36z_val R36z_tab
    simp only [allP, Con.h, decide_eq_true_eq, decide_eq_false_iff_not, not_false_eq_true, eq_self, true_and, and_true]
    omega
noncomputable def sm36 : Summary := fun args T => sm36c args T (xsAt T 1) (gAt T 1) (gAt T 0) (offOf (cAt T 0 0)) (lenOf (cAt T 0 0)) (iOf (cAt T 0 1))
theorem sm36_ok : SmOk prog (fun _ => none) 75 sm36 := fun args T h => sm36c_ok h
noncomputable def S36r : Summary := callR sm36 [true]
theorem S36r_ok : SumOk prog (fun _ => none) 75 S36r := callR_ok sm36_ok [true]
end Go.Abs

set_option linter.unusedVariables false
set_option linter.unusedSimpArgs false
set_option maxRecDepth 100000
set_option maxHeartbeats 4000000
namespace Go.Abs
open Go.Proofs Go.Proofs.Try
/-! ### the reader: Vector, New -/
noncomputable def eR5 : Env := eN0 [(79, S27r), (80, S31r), (78, S35)]
theorem eR5_ok : EnvOk eR5 := envOf_ok tysN_ok (SumsOk.cons (fn := f79) S27r_ok (by kernel_rfl) (by kernel_rfl) (by kernel_rfl) (SumsOk.cons (fn := f80) S31r_ok (by kernel_rfl) (by kernel_rfl) (by kernel_rfl) (SumsOk.cons (fn := f78) S35_ok (by kernel_rfl) (by kernel_rfl) (by kernel_rfl) trivial)))
noncomputable def R29e (B : List Int) (g gR off n : Nat) (e : Int) : Res := runF eR5 f52 [] 400 [.var 0 gR] [some ⟨.agg [.slice 1 1 g off n none, .int .i64 e, .bool true], gR, true, 115⟩, some ⟨.ints .u8 B, g, false, 5⟩] [some true]
theorem R29e_ok {B : List Int} {g gR off n : Nat} {e : Int} (h : allP [.eqN gR gR, .eqN g g, .eqN gR gR, .eqN gR gR, .eqN gR gR, .eqN gR gR, .eqN gR gR, .eqN gR gR, .eqN gR gR, .p ((e != 0) = true)]) : OkR (R29e B g gR off n e) := OkR.dem (fl := bitsF 12 1088) (by kernel_rfl) (by kernel_rfl) (by kernel_rfl) h
theorem R29e_val {B : List Int} {g gR off n : Nat} {e : Int} : (R29e B g gR off n e).val = .nilSlice := by kernel_rfl
theorem R29e_tab {B : List Int} {g gR off n : Nat} {e : Int} : (R29e B g gR off n e).tab = [some ⟨.agg [.slice 1 1 g off n none, .int .i64 e, .bool true], gR, true, 115⟩, some ⟨.ints .u8 B, g, false, 5⟩] := by kernel_rfl
noncomputable def R29a (B : List Int) (g gR off n : Nat) : Res := resG 2 [0,1,2] (runF eR5 f52 [] 400 [.var 0 gR] [some ⟨.agg [.slice 1 1 g off n none, .int .i64 0, .bool true], gR, true, 115⟩, some ⟨.ints .u8 B, g, false, 5⟩] [none, some false, some true])
theorem R29a_ok {B : List Int} {g gR off n : Nat} (h : allP [.eqN gR gR, .eqN g g, .eqN gR gR, .eqN gR gR, .eqN gR gR, .eqN gR gR, .eqN gR gR, .eqN gR gR, .eqN gR gR, .eqN gR gR, .eqN gR gR, .eqN gR gR, .eqN g g, .eqN n (B.length - off), .leN off B.length, .p (ByLaw B), .eqN gR gR, .eqN gR gR, .eqN gR gR, .p ((rlELaw B off (OfNat.ofNat 0) == 0) = false), .eqN g g, .eqN (B.length - rlOLaw B off
 (OfNat.ofNat 0)) (B.length - rlOLaw B off (OfNat.ofNat 0)), .leN (rlOLaw B off (OfNat.ofNat 0)) B.length, .p (ByLaw B), .leN B.length 140737488355000, .eqN gR gR, .eqN gR gR, .eqN gR gR, .p ((rtELaw B (rlOLaw B off (OfNat.ofNat 0)) (rlELaw B off (OfNat.ofNat 0)) (rlVLaw B off (OfNat.ofNat 0)) != 0) = true), .eqN gR gR, .eqN gR gR, .eqN gR gR]) : OkR (R29a B g gR off n) := OkR.dem (fl := bitsF 44
 15461899060288) (by kernel_rfl) (by kernel_rfl) (by kernel_rfl) h
theorem R29a_val {B : List Int} {g gR off n : Nat} : (R29a B g gR off n).val = .slice 1 2 1 0 (rtVLaw B (rlOLaw B off (OfNat.ofNat 0)) (rlELaw B off (OfNat.ofNat 0)) (rlVLaw B off (OfNat.ofNat 0))).length none := by kernel_rfl
theorem R29a_tab {B : List Int} {g gR off n : Nat} : (R29a B g gR off n).tab = [some ⟨.agg [.slice 1 1 g off n none, .int .i64 (rtELaw B (rlOLaw B off (OfNat.ofNat 0)) (rlELaw B off (OfNat.ofNat 0)) (rlVLaw B off (OfNat.ofNat 0))), .bool true], gR, true, 115⟩, some ⟨.ints .u8 B, g, false, 5⟩, some ⟨.ints .u8 (rtVLaw B (rlOLaw B off (OfNat.ofNat 0)) (rlELaw B off (OfNat.ofNat 0)) (rlVLaw B off
 (OfNat.ofNat 0))), 1, true, 5⟩] := by kernel_rfl
noncomputable def R29b (B : List Int) (g gR off n : Nat) : Res := resG 2 [0,1,2] (runF eR5 f52 [] 400 [.var 0 gR] [some ⟨.agg [.slice 1 1 g off n none, .int .i64 0, .bool true], gR, true, 115⟩, some ⟨.ints .u8 B, g, false, 5⟩] [none, some true, some true, some true])
theorem R29b_ok {B : List Int} {g gR off n : Nat} (h : allP [.eqN gR gR, .eqN g g, .eqN gR gR, .eqN gR gR, .eqN gR gR, .eqN gR gR, .eqN gR gR, .eqN gR gR, .eqN gR gR, .eqN gR gR, .eqN gR gR, .eqN gR gR, .eqN g g, .eqN n (B.length - off), .leN off B.length, .p (ByLaw B), .eqN gR gR, .eqN gR gR, .eqN gR gR, .p ((rlELaw B off (OfNat.ofNat 0) == 0) = true), .p (decide (65536 < rlVLaw B off (OfNat.ofNat
 0)) = true), .eqN gR gR, .eqN gR gR, .eqN gR gR, .eqN g g, .eqN (B.length - rlOLaw B off (OfNat.ofNat 0)) (B.length - rlOLaw B off (OfNat.ofNat 0)), .leN (rlOLaw B off (OfNat.ofNat 0)) B.length, .p (ByLaw B), .leN B.length 140737488355000, .eqN gR gR, .eqN gR gR, .eqN gR gR, .p (true = true), .eqN gR gR, .eqN gR gR, .eqN gR gR]) : OkR (R29b B g gR off n) := OkR.dem (fl := bitsF 51 1979128462984256)
 (by kernel_rfl) (by kernel_rfl) (by kernel_rfl) h
theorem R29b_val {B : List Int} {g gR off n : Nat} : (R29b B g gR off n).val = .slice 1 2 1 0 0 none := by kernel_rfl
theorem R29b_tab {B : List Int} {g gR off n : Nat} : (R29b B g gR off n).tab = [some ⟨.agg [.slice 1 1 g off n none, .int .i64 (rtELaw B (rlOLaw B off (OfNat.ofNat 0)) (OfNat.ofNat 21) (rlVLaw B off (OfNat.ofNat 0))), .bool true], gR, true, 115⟩, some ⟨.ints .u8 B, g, false, 5⟩, some ⟨.ints .u8 (rtVLaw B (rlOLaw B off (OfNat.ofNat 0)) (OfNat.ofNat 21) (rlVLaw B off (OfNat.ofNat 0))), 1, true, 5⟩]
 := by kernel_rfl
noncomputable def R29c (B : List Int) (g gR off n : Nat) : Res := resG 2 [0,1,2] (runF eR5 f52 [] 400 [.var 0 gR] [some ⟨.agg [.slice 1 1 g off n none, .int .i64 0, .bool true], gR, true, 115⟩, some ⟨.ints .u8 B, g, false, 5⟩] [none, some true, some false, some true])
theorem R29c_ok {B : List Int} {g gR off n : Nat} (h : allP [.eqN gR gR, .eqN g g, .eqN gR gR, .eqN gR gR, .eqN gR gR, .eqN gR gR, .eqN gR gR, .eqN gR gR, .eqN gR gR, .eqN gR gR, .eqN gR gR, .eqN gR gR, .eqN g g, .eqN n (B.length - off), .leN off B.length, .p (ByLaw B), .eqN gR gR, .eqN gR gR, .eqN gR gR, .p ((rlELaw B off (OfNat.ofNat 0) == 0) = true), .p (decide (65536 < rlVLaw B off (OfNat.ofNat
 0)) = false), .eqN g g, .eqN (B.length - rlOLaw B off (OfNat.ofNat 0)) (B.length - rlOLaw B off (OfNat.ofNat 0)), .leN (rlOLaw B off (OfNat.ofNat 0)) B.length, .p (ByLaw B), .leN B.length 140737488355000, .eqN gR gR, .eqN gR gR, .eqN gR gR, .p ((rtELaw B (rlOLaw B off (OfNat.ofNat 0)) (rlELaw B off (OfNat.ofNat 0)) (rlVLaw B off (OfNat.ofNat 0)) != 0) = true), .eqN gR gR, .eqN gR gR, .eqN gR gR]) :
 OkR (R29c B g gR off n) := OkR.dem (fl := bitsF 45 30923781325888) (by kernel_rfl) (by kernel_rfl) (by kernel_rfl) h
theorem R29c_val {B : List Int} {g gR off n : Nat} : (R29c B g gR off n).val = .slice 1 2 1 0 (rtVLaw B (rlOLaw B off (OfNat.ofNat 0)) (rlELaw B off (OfNat.ofNat 0)) (rlVLaw B off (OfNat.ofNat 0))).length none := by kernel_rfl
theorem R29c_tab {B : List Int} {g gR off n : Nat} : (R29c B g gR off n).tab = [some ⟨.agg [.slice 1 1 g off n none, .int .i64 (rtELaw B (rlOLaw B off (OfNat.ofNat 0)) (rlELaw B off (OfNat.ofNat 0)) (rlVLaw B off (OfNat.ofNat 0))), .bool true], gR, true, 115⟩, some ⟨.ints .u8 B, g, false, 5⟩, some ⟨.ints .u8 (rtVLaw B (rlOLaw B off (OfNat.ofNat 0)) (rlELaw B off (OfNat.ofNat 0)) (rlVLaw B off
 (OfNat.ofNat 0))), 1, true, 5⟩] := by kernel_rfl
noncomputable def R29d (B : List Int) (g gR off n : Nat) : Res := resG 2 [0,1,2] (runF eR5 f52 [] 400 [.var 0 gR] [some ⟨.agg [.slice 1 1 g off n none, .int .i64 0, .bool true], gR, true, 115⟩, some ⟨.ints .u8 B, g, false, 5⟩] [none, some true, some false, some false])
theorem R29d_ok {B : List Int} {g gR off n : Nat} (h : allP [.eqN gR gR, .eqN g g, .eqN gR gR, .eqN gR gR, .eqN gR gR, .eqN gR gR, .eqN gR gR, .eqN gR gR, .eqN gR gR, .eqN gR gR, .eqN gR gR, .eqN gR gR, .eqN g g, .eqN n (B.length - off), .leN off B.length, .p (ByLaw B), .eqN gR gR, .eqN gR gR, .eqN gR gR, .p ((rlELaw B off (OfNat.ofNat 0) == 0) = true), .p (decide (65536 < rlVLaw B off (OfNat.ofNat
 0)) = false), .eqN g g, .eqN (B.length - rlOLaw B off (OfNat.ofNat 0)) (B.length - rlOLaw B off (OfNat.ofNat 0)), .leN (rlOLaw B off (OfNat.ofNat 0)) B.length, .p (ByLaw B), .leN B.length 140737488355000, .eqN gR gR, .eqN gR gR, .eqN gR gR, .p ((rtELaw B (rlOLaw B off (OfNat.ofNat 0)) (rlELaw B off (OfNat.ofNat 0)) (rlVLaw B off (OfNat.ofNat 0)) != 0) = false)]) : OkR (R29d B g gR off n) := OkR.dem
 (fl := bitsF 39 137455748160) (by kernel_rfl) (by kernel_rfl) (by kernel_rfl) h
theorem R29d_val {B : List Int} {g gR off n : Nat} : (R29d B g gR off n).val = .slice 1 2 1 0 (rtVLaw B (rlOLaw B off (OfNat.ofNat 0)) (rlELaw B off (OfNat.ofNat 0)) (rlVLaw B off (OfNat.ofNat 0))).length none := by kernel_rfl
theorem R29d_tab {B : List Int} {g gR off n : Nat} : (R29d B g gR off n).tab = [some ⟨.agg [.slice 1 1 g (rtOLaw B (rlOLaw B off (OfNat.ofNat 0)) (rlELaw B off (OfNat.ofNat 0)) (rlVLaw B off (OfNat.ofNat 0))) (B.length - rtOLaw B (rlOLaw B off (OfNat.ofNat 0)) (rlELaw B off (OfNat.ofNat 0)) (rlVLaw B off (OfNat.ofNat 0))) none, .int .i64 (rtELaw B (rlOLaw B off (OfNat.ofNat 0)) (rlELaw B off
 (OfNat.ofNat 0)) (rlVLaw B off (OfNat.ofNat 0))), .bool true], gR, true, 115⟩, some ⟨.ints .u8 B, g, false, 5⟩, some ⟨.ints .u8 (rtVLaw B (rlOLaw B off (OfNat.ofNat 0)) (rlELaw B off (OfNat.ofNat 0)) (rlVLaw B off (OfNat.ofNat 0))), 1, true, 5⟩] := by kernel_rfl
noncomputable def eR6 : Env := eN0 [(74, S44r)]
theorem eR6_ok : EnvOk eR6 := envOf_ok tysN_ok (SumsOk.cons (fn := f74) S44r_ok (by kernel_rfl) (by kernel_rfl) (by kernel_rfl) trivial)
noncomputable def R23 (zs : List Int) (g off n : Nat) (cp : Option Nat) (ow : Bool) : Res := resG 1 [0,2,1] (runF eR6 f42 [] 400 [.slice 1 0 g off n cp] [some ⟨.ints .u8 zs, g, ow, 5⟩] [])
theorem R23_ok {zs : List Int} {g off n : Nat} {cp : Option Nat} {ow : Bool} (h : allP [.eqN g g, .leN (off + n) zs.length, .leN n 140737488355000]) : OkR (R23 zs g off n cp ow) := OkR.dem (fl := [false, false, false, false, false, true, true, true, true]) (by kernel_rfl) (by kernel_rfl) (by kernel_rfl) h
theorem R23_val {zs : List Int} {g off n : Nat} {cp : Option Nat} {ow : Bool} : (R23 zs g off n cp ow).val = .var 2 0 := by kernel_rfl
theorem R23_tab {zs : List Int} {g off n : Nat} {cp : Option Nat} {ow : Bool} : (R23 zs g off n cp ow).tab = [some ⟨.ints .u8 zs, g, ow, 5⟩, some ⟨.ints .u8 (subLaw zs off n), 1, true, 5⟩, some ⟨.agg [.slice 1 1 1 0 n none, .int .i64 0, .bool true], 0, true, 115⟩] := by kernel_rfl
end Go.Abs

set_option linter.unusedVariables false
set_option linter.unusedSimpArgs false
set_option maxRecDepth 100000
set_option maxHeartbeats 4000000
namespace Go.Abs
open Go.Proofs Go.Proofs.Try
/-! ### what a reader's Vector answers -/
def rvE1 (B : List Int) (off : Nat) : Int := if rlELaw B off 0 = 0 ∧ 65536 < rlVLaw B off 0 then 21 else rlELaw B off 0
def rvP (B : List Int) (off : Nat) (e : Int) : List Int × Nat × Int :=
  if e ≠ 0 then ([], off, e) else (rtVLaw B (rlOLaw B off 0) (rvE1 B off) (rlVLaw B off 0), (if rtELaw B (rlOLaw B off 0) (rvE1 B off) (rlVLaw B off 0) ≠ 0 then off else rtOLaw B (rlOLaw B off 0) (rvE1 B off) (rlVLaw B off 0)), rtELaw B (rlOLaw B off 0) (rvE1 B off) (rlVLaw B off 0))
def rvVLaw (B : List Int) (off : Nat) (e : Int) : List Int := (rvP B off e).1
def rvOLaw (B : List Int) (off : Nat) (e : Int) : Nat := (rvP B off e).2.1
def rvELaw (B : List Int) (off : Nat) (e : Int) : Int := (rvP B off e).2.2
theorem rv_e {B : List Int} {off : Nat} {e : Int} (h : e ≠ 0) : rvP B off e = ([], off, e) := if_pos h
theorem rv_w {B : List Int} {off : Nat} {e1 : Int} (h : rvE1 B off = e1) (h2 : rtELaw B (rlOLaw B off 0) e1 (rlVLaw B off 0) ≠ 0) : rvP B off 0 = (rtVLaw B (rlOLaw B off 0) e1 (rlVLaw B off 0), off, rtELaw B (rlOLaw B off 0) e1 (rlVLaw B off 0)) := by
  unfold rvP; rw [if_neg (by decide), h, if_pos h2]
theorem rv_g {B : List Int} {off : Nat} {e1 : Int} (h : rvE1 B off = e1) (h2 : rtELaw B (rlOLaw B off 0) e1 (rlVLaw B off 0) = 0) : rvP B off 0 = (rtVLaw B (rlOLaw B off 0) e1 (rlVLaw B off 0), rtOLaw B (rlOLaw B off 0) e1 (rlVLaw B off 0), rtELaw B (rlOLaw B off 0) e1 (rlVLaw B off 0)) := by
  unfold rvP; rw [if_neg (by decide), h, if_neg (fun k => k h2)]
theorem rtE_e {B : List Int} {off : Nat} {e : Int} (m : Int) (h : e ≠ 0) : rtELaw B off e m = e := by unfold rtELaw; rw [rt_e m h]
theorem rlT_off {B : List Int} {off k : Nat} {m lo : Int} (h : off ≤ B.length) : off ≤ (rlT B off k m lo).2.1 ∧ (rlT B off k m lo).2.1 ≤ B.length := by
  unfold rlT
  split
  · exact ⟨Nat.le_refl _, h⟩
  · split
    · exact ⟨Nat.le_refl _, h⟩
    · exact ⟨by show off ≤ off + k; omega, by show off + k ≤ B.length; omega⟩
theorem rl_off {B : List Int} {off : Nat} (h : off ≤ B.length) (e : Int) : off ≤ rlOLaw B off e ∧ rlOLaw B off e ≤ B.length := by
  unfold rlOLaw rlP
  split
  · exact ⟨Nat.le_refl _, h⟩
  split
  · exact ⟨Nat.le_refl _, h⟩
  split
  · exact ⟨Nat.le_refl _, h⟩
  split
  · exact rlT_off h
  split
  · exact rlT_off h
  · exact rlT_off h
theorem rt_off {B : List Int} {off : Nat} (h : off ≤ B.length) (e m : Int) : off ≤ rtOLaw B off e m ∧ rtOLaw B off e m ≤ B.length := by
  unfold rtOLaw rtP
  split
  · exact ⟨Nat.le_refl _, h⟩
  split
  · exact ⟨Nat.le_refl _, h⟩
  split
  · exact ⟨Nat.le_refl _, h⟩
  · exact ⟨by show off ≤ off + m.toNat; omega, by show off + m.toNat ≤ B.length; omega⟩
theorem rn_off {B : List Int} {off : Nat} (h : off ≤ B.length) (e m : Int) : off ≤ rnOLaw B off e m ∧ rnOLaw B off e m ≤ B.length := by
  unfold rnOLaw rnP
  split
  · exact ⟨Nat.le_refl _, h⟩
  split
  · exact ⟨Nat.le_refl _, h⟩
  split
  · exact ⟨Nat.le_refl _, h⟩
  split
  · exact ⟨Nat.le_refl _, h⟩
  · exact ⟨by show off ≤ off + m.toNat; omega, by show off + m.toNat ≤ B.length; omega⟩
theorem rv_off {B : List Int} {off : Nat} (h : off ≤ B.length) (e : Int) : off ≤ rvOLaw B off e ∧ rvOLaw B off e ≤ B.length := by
  unfold rvOLaw rvP
  split
  · exact ⟨Nat.le_refl _, h⟩
  · have h1 := rl_off h 0
    show off ≤ ite _ _ _ ∧ ite _ _ _ ≤ B.length
    split
    · exact ⟨Nat.le_refl _, h⟩
    · have h2 := rt_off h1.2 (rvE1 B off) (rlVLaw B off 0)
      exact ⟨Nat.le_trans h1.1 h2.1, h2.2⟩
noncomputable def sm29c (args : List AVal) (T : Tab) (B : List Int) (g : Nat) (gR : Nat) (off : Nat) (n : Nat) (e : Int) : Res := ⟨[.tab T [some ⟨.agg [.slice 1 1 g off n none, .int .i64 e, .bool true], gR, true, 115⟩, some ⟨.ints .u8 B, g, false, 5⟩], .val (.tuple args) (.tuple [.var 0 gR]), .eqN n (B.length - off), .leN off B.length, .p (ByLaw B), .leN B.length 140737488355000], .slice 1 2 1 0 (rvVLaw B off e).length none, [some ⟨.agg [.slice 1 1 g (rvOLaw B off e) (B.length - rvOLaw B off e) none, .int .i64 (rvELaw B off e), .bool true], gR, true, 115⟩, some ⟨.ints .u8 B, g, false, 5⟩, some ⟨.ints .u8 (rvVLaw B off e), 1, true, 5⟩]⟩
theorem sm29c_ok {args : List AVal} {T : Tab} {B : List Int} {g : Nat} {gR : Nat} {off : Nat} {n : Nat} {e : Int} (h : allP (sm29c args T B g gR off n e).cs) : Small prog (fun _ => none) 52 args T (sm29c args T B g gR off n e).val (sm29c args T B g gR off n e).tab := by
  obtain ⟨hT, hv, h1, h2, h3, h4, _⟩ := h
  simp only [Con.h] at hT hv h1 h2 h3 h4
  injection hv with hv
  subst hT hv
  show Small prog (fun _ => none) 52 [.var 0 gR] [some ⟨.agg [.slice 1 1 g off n none, .int .i64 e, .bool true], gR, true, 115⟩, some ⟨.ints .u8 B, g, false, 5⟩] (.slice 1 2 1 0 (rvVLaw B off e).length none) [some ⟨.agg [.slice 1 1 g (rvOLaw B off e) (B.length - rvOLaw B off e) none, .int .i64 (rvELaw B off e), .bool true], gR, true, 115⟩, some ⟨.ints .u8 B, g, false, 5⟩, some ⟨.ints .u8 (rvVLaw B off e), 1, true, 5⟩]
  have hb : ByLaw B := h3
  subst h1
  by_cases he : e = 0
  rotate_left
  · have hr := rv_e (B := B) (off := off) he
    have hne : (e != 0) = true := bne_iff_ne.2 he
    simp only [rvVLaw, rvOLaw, rvELaw, hr]
    have hc : Small prog (fun _ => none) 52 [.var 0 gR] [some ⟨.agg [.slice 1 1 g off (B.length - off) none, .int .i64 e, .bool true], gR, true, 115⟩, some ⟨.ints .u8 B, g, false, 5⟩] .nilSlice [some ⟨.agg [.slice 1 1 g off (B.length - off) none, .int .i64 e, .bool true], gR, true, 115⟩, some ⟨.ints .u8 B, g, false, 5⟩] := by
      refine small_of (R := R29e B g gR off (B.length - off) e) eR5_ok hmN (f := 52) (fn := f52) (by kernel_rfl) (by kernel_rfl) FnOrc.nil rfl (R29e_ok ?_) R29e_val R29e_tab
      simp only [allP, Con.h, hne, not_false_eq_true, eq_self, true_and, and_true]
    exact small_nilG .u8 5 1 hc (Nat.le_refl 2)
  subst he
  have ho := rl_off h2 0
  by_cases h0 : rlELaw B off 0 = 0
  rotate_left
  · have e1 : rvE1 B off = rlELaw B off 0 := if_neg (fun k => h0 k.1)
    have hE := rtE_e (B := B) (off := rlOLaw B off 0) (rlVLaw B off 0) h0
    have hr := rv_w e1 (by rw [hE]; exact h0)
    have q1 : (rlELaw B off 0 == 0) = false := beq_eq_false_iff_ne.2 h0
    have q2 : (rlELaw B off 0 != 0) = true := bne_iff_ne.2 h0
    simp only [rvVLaw, rvOLaw, rvELaw, hr]
    refine small_ofG (R := R29a B g gR off (B.length - off)) (keep := [0,1,2]) eR5_ok hmN (f := 52) (fn := f52) (by kernel_rfl) (by kernel_rfl) FnOrc.nil rfl (R29a_ok ?_) R29a_val R29a_tab
    simp only [allP, Con.h, hb, q1, hE, q2, ho.2, h2, h4, not_false_eq_true, eq_self, true_and, and_true]
  have q1 : (rlELaw B off 0 == 0) = true := beq_iff_eq.2 h0
  by_cases hv : 65536 < rlVLaw B off 0
  · have e1 : rvE1 B off = 21 := if_pos ⟨h0, hv⟩
    have hE := rtE_e (B := B) (off := rlOLaw B off 0) (e := 21) (rlVLaw B off 0) (by decide)
    have hr := rv_w e1 (by rw [hE]; decide)
    simp only [rvVLaw, rvOLaw, rvELaw, hr]
    refine small_ofG (R := R29b B g gR off (B.length - off)) (keep := [0,1,2]) eR5_ok hmN (f := 52) (fn := f52) (by kernel_rfl) (by kernel_rfl) FnOrc.nil rfl (R29b_ok ?_) R29b_val R29b_tab
    simp only [allP, Con.h, hb, q1, hv, ho.2, h2, h4, decide_eq_true_eq, not_false_eq_true, eq_self, true_and, and_true]
  have e1 : rvE1 B off = rlELaw B off 0 := if_neg (fun k => hv k.2)
  by_cases hE : rtELaw B (rlOLaw B off 0) (rlELaw B off 0) (rlVLaw B off 0) = 0
  · have hr := rv_g e1 hE
    have q2 : (rtELaw B (rlOLaw B off 0) (rlELaw B off 0) (rlVLaw B off 0) != 0) = false := bne_eq_false_iff_eq.2 hE
    simp only [rvVLaw, rvOLaw, rvELaw, hr]
    refine small_ofG (R := R29d B g gR off (B.length - off)) (keep := [0,1,2]) eR5_ok hmN (f := 52) (fn := f52) (by kernel_rfl) (by kernel_rfl) FnOrc.nil rfl (R29d_ok ?_) R29d_val R29d_tab
    simp only [allP, Con.h, hb, q1, q2, hv, ho.2, h2, h4, decide_eq_true_eq, decide_eq_false_iff_not, not_false_eq_true, eq_self, true_and, and_true]
  · have hr := rv_w e1 hE
    have q2 : (rtELaw B (rlOLaw B off 0) (rlELaw B off 0) (rlVLaw B off 0) != 0) = true := bne_iff_ne.2 hE
    simp only [rvVLaw, rvOLaw, rvELaw, hr]
    refine small_ofG (R := R29c B g gR off (B.length - off)) (keep := [0,1,2]) eR5_ok hmN (f := 52) (fn := f52) (by kernel_rfl) (by kernel_rfl) FnOrc.nil rfl (R29c_ok ?_) R29c_val R29c_tab
    simp only [allP, Con.h, hb, q1, q2, hv, ho.2, h2, h4, decide_eq_true_eq, decide_eq_false_iff_not, not_false_eq_true, eq_self, true_and, and_true]
noncomputable def sm29 : Summary := fun args T => sm29c args T (xsAt T 1) (gAt T 1) (gAt T 0) (offOf (cAt T 0 0)) (lenOf (cAt T 0 0)) (iOf (cAt T 0 1))
theorem sm29_ok : SmOk prog (fun _ => none) 52 sm29 := fun args T h => sm29c_ok h
noncomputable def S29r : Summary := callR sm29 [true]
theorem S29r_ok : SumOk prog (fun _ => none) 52 S29r := callR_ok sm29_ok [true]
noncomputable def sm23c (args : List AVal) (T : Tab) (zs : List Int) (g : Nat) (off : Nat) (n : Nat) (cp : Option Nat) (ow : Bool) : Res := ⟨[.tab T [some ⟨.ints .u8 zs, g, ow, 5⟩], .val (.tuple args) (.tuple [.slice 1 0 g off n cp]), .leN (off + n) zs.length, .leN n 140737488355000], .var 2 0, [some ⟨.ints .u8 zs, g, ow, 5⟩, some ⟨.ints .u8 (subLaw zs off n), 1, true, 5⟩, some ⟨.agg [.slice 1 1 1 0 n none, .int .i64 0, .bool true], 0, true, 115⟩]⟩
theorem sm23c_ok {args : List AVal} {T : Tab} {zs : List Int} {g : Nat} {off : Nat} {n : Nat} {cp : Option Nat} {ow : Bool} (h : allP (sm23c args T zs g off n cp ow).cs) : Small prog (fun _ => none) 42 args T (sm23c args T zs g off n cp ow).val (sm23c args T zs g off n cp ow).tab := by
  obtain ⟨hT, hv, h1, h2, _⟩ := h
  simp only [Con.h] at hT hv h1 h2
  injection hv with hv
  subst hT hv
  show Small prog (fun _ => none) 42 [.slice 1 0 g off n cp] [some ⟨.ints .u8 zs, g, ow, 5⟩] (.var 2 0) [some ⟨.ints .u8 zs, g, ow, 5⟩, some ⟨.ints .u8 (subLaw zs off n), 1, true, 5⟩, some ⟨.agg [.slice 1 1 1 0 n none, .int .i64 0, .bool true], 0, true, 115⟩]
  refine small_ofG (R := R23 zs g off n cp ow) (keep := [0,2,1]) eR6_ok hmN (f := 42) (fn := f42) (by kernel_rfl) (by kernel_rfl) FnOrc.nil rfl (R23_ok ?_) R23_val R23_tab
  simp only [allP, Con.h, h1, h2, not_false_eq_true, eq_self, true_and, and_true]
noncomputable def sm23 : Summary := fun args T => sm23c args T (xsAt T 0) (gAt T 0) (offOf (vAt args 0)) (lenOf (vAt args 0)) (capOf (vAt args 0)) (owAt T 0)
theorem sm23_ok : SmOk prog (fun _ => none) 42 sm23 := fun args T h => sm23c_ok h
noncomputable def S23r : Summary := callR sm23 []
theorem S23r_ok : SumOk prog (fun _ => none) 42 S23r := callR_ok sm23_ok []
end Go.Abs

set_option linter.unusedVariables false
set_option linter.unusedSimpArgs false
set_option maxRecDepth 100000
set_option maxHeartbeats 4000000
namespace Go.Abs
open Go.Proofs Go.Proofs.Try
end Go.Abs

set_option linter.unusedVariables false
set_option linter.unusedSimpArgs false
set_option maxRecDepth 100000
set_option maxHeartbeats 4000000
namespace Go.Abs
open Go.Proofs Go.Proofs.Try
end Go.Abs

set_option linter.unusedVariables false
set_option linter.unusedSimpArgs false
set_option maxRecDepth 100000
set_option maxHeartbeats 4000000
namespace Go.Abs
open Go.Proofs Go.Proofs.Try
end Go.Abs

set_option linter.unusedVariables false
set_option linter.unusedSimpArgs false
set_option maxRecDepth 100000
set_option maxHeartbeats 4000000
namespace Go.Abs
open Go.Proofs Go.Proofs.Try
end Go.Abs

set_option linter.unusedVariables false
set_option linter.unusedSimpArgs false
set_option maxRecDepth 100000
set_option maxHeartbeats 4000000
namespace Go.Abs
open Go.Proofs Go.Proofs.Try
end Go.Abs

set_option linter.unusedVariables false
set_option linter.unusedSimpArgs false
set_option maxRecDepth 100000
set_option maxHeartbeats 4000000
namespace Go.Abs
open Go.Proofs Go.Proofs.Try
end Go.Abs

set_option linter.unusedVariables false
set_option linter.unusedSimpArgs false
set_option maxRecDepth 100000
set_option maxHeartbeats 4000000
namespace Go.Abs
open Go.Proofs Go.Proofs.Try
end Go.Abs

set_option linter.unusedVariables false
set_option linter.unusedSimpArgs false
set_option maxRecDepth 100000
set_option maxHeartbeats 4000000
namespace Go.Abs
open Go.Proofs Go.Proofs.Try
/-! ### demands -/
noncomputable def nS48 : Summary := sumI modeO (eN0 []) f48 [] 100 [] []
theorem nS48_ok : SumOk prog (fun _ => none) 48 nS48 := sumI_ok eN0_ok hmN (fn := f48) (by kernel_rfl) (by kernel_rfl) [] FnOrc.nil 100 [] []
noncomputable def nP48 : Summary := sumP modeO (eN0 []) [] f48 100 1 [] []
theorem nP48_ok : SumOkP prog (fun _ => none) 48 nP48 := sumP_ok eN0_ok hmN PsOk.nil (fn := f48) (by kernel_rfl) 100 1 [] []
noncomputable def psN0 : List (Nat × Summary) := [(48, nP48)]
theorem psN0_ok : PsOk prog (fun _ => none) psN0 := PsOk.cons (fn := f48) nP48_ok (by kernel_rfl) (by kernel_rfl) (by kernel_rfl) PsOk.nil
noncomputable def eM0 : Env := eN0 [(48, nS48)]
theorem eM0_ok : EnvOk eM0 := envOf_ok tysN_ok (SumsOk.cons (fn := f48) nS48_ok (by kernel_rfl) (by kernel_rfl) (by kernel_rfl) trivial)
noncomputable def nS69 : Summary := sumI modeO eM0 f69 [] 100 [some true] []
theorem nS69_ok : SumOk prog (fun _ => none) 69 nS69 := sumI_ok eM0_ok hmN (fn := f69) (by kernel_rfl) (by kernel_rfl) [] FnOrc.nil 100 [some true] []
noncomputable def nP69 : Summary := sumP modeO (eN0 []) psN0 f69 100 0 [some false] []
theorem nP69_ok : SumOkP prog (fun _ => none) 69 nP69 := sumP_ok eN0_ok hmN psN0_ok (fn := f69) (by kernel_rfl) 100 0 [some false] []
noncomputable def psN1 : List (Nat × Summary) := [(48, nP48), (69, nP69)]
theorem psN1_ok : PsOk prog (fun _ => none) psN1 := PsOk.cons (fn := f48) nP48_ok (by kernel_rfl) (by kernel_rfl) (by kernel_rfl) (PsOk.cons (fn := f69) nP69_ok (by kernel_rfl) (by kernel_rfl) (by kernel_rfl) PsOk.nil)
noncomputable def eM1 : Env := eN0 [(48, nS48), (69, nS69)]
theorem eM1_ok : EnvOk eM1 := envOf_ok tysN_ok (SumsOk.cons (fn := f48) nS48_ok (by kernel_rfl) (by kernel_rfl) (by kernel_rfl) (SumsOk.cons (fn := f69) nS69_ok (by kernel_rfl) (by kernel_rfl) (by kernel_rfl) trivial))
end Go.Abs

set_option linter.unusedVariables false
set_option linter.unusedSimpArgs false
set_option maxRecDepth 100000
set_option maxHeartbeats 4000000
namespace Go.Abs
open Go.Proofs Go.Proofs.Try
/-! ### may a leaf be? -/
def RightN (n1 n2 n3 : Nat) (s : Int) (n4 n5 : Nat) : Prop := n1 = 32 ∧ n2 = 32 ∧ n5 = 64 ∧ 1 ≤ n3 ∧ n3 ≤ 64 ∧ 1 ≤ s ∧ s ≤ 3 ∧ (n4 = 0 ∨ n4 = 32 ∧ s = 3)
instance (n1 n2 n3 : Nat) (s : Int) (n4 n5 : Nat) : Decidable (RightN n1 n2 n3 s n4 n5) := by unfold RightN; exact inferInstance
noncomputable def nR37e (a b c d z : List Int) (g1 g2 g3 g4 g5 n1 n2 n3 n4 n5 : Nat) (s : Int) : Res := runF eM1 f37 [] 400 [.agg [.slice 1 0 g1 0 n1 none, .slice 1 1 g2 0 n2 none, .slice 1 2 g3 0 n3 none, .int .i64 s, .slice 1 3 g4 0 n4 none, .slice 1 4 g5 0 n5 none]] [some ⟨.ints .u8 a, g1, false, 5⟩, some ⟨.ints .u8 b, g2, false, 5⟩, some ⟨.ints .u8 c, g3, false, 5⟩, some ⟨.ints .u8 d, g4, false, 5⟩, some ⟨.ints .u8 z, g5, false, 5⟩] [some true, some true, some true, some true, some true]
theorem nR37e_ok {a b c d z : List Int} {g1 g2 g3 g4 g5 n1 n2 n3 n4 n5 : Nat} {s : Int} (h : allP [.eqN g1 g1, .eqN g1 g1, .p (((↑n1 : Int) == 32) = true), .eqN g2 g2, .eqN g2 g2, .p (((↑n2 : Int) == 32) = true), .eqN g5 g5, .eqN g5 g5, .p (((↑n5 : Int) == 64) = true), .eqN g3 g3, .p (decide (1 ≤ (↑n3 : Int)) = true), .eqN g3 g3, .p (decide ((↑n3 : Int) ≤ 64) = true), .p (decide (1 ≤ s) = true), .p
 (decide (s ≤ 3) = true), .eqN g4 g4, .p (((↑n4 : Int) == 0) = true)]) : OkR (nR37e a b c d z g1 g2 g3 g4 g5 n1 n2 n3 n4 n5 s) := OkR.dem (fl := bitsF 41 513040740807) (by kernel_rfl) (by kernel_rfl) (by kernel_rfl) h
theorem nR37e_val {a b c d z : List Int} {g1 g2 g3 g4 g5 n1 n2 n3 n4 n5 : Nat} {s : Int} : (nR37e a b c d z g1 g2 g3 g4 g5 n1 n2 n3 n4 n5 s).val = .tuple [] := by kernel_rfl
theorem nR37e_tab {a b c d z : List Int} {g1 g2 g3 g4 g5 n1 n2 n3 n4 n5 : Nat} {s : Int} : (nR37e a b c d z g1 g2 g3 g4 g5 n1 n2 n3 n4 n5 s).tab = [some ⟨.ints .u8 a, g1, false, 5⟩, some ⟨.ints .u8 b, g2, false, 5⟩, some ⟨.ints .u8 c, g3, false, 5⟩, some ⟨.ints .u8 d, g4, false, 5⟩, some ⟨.ints .u8 z, g5, false, 5⟩, some ⟨.agg [.slice 1 0 g1 0 n1 none, .slice 1 1 g2 0 n2 none, .slice 1 2 g3 0 n3
 none, .int .i64 s, .slice 1 3 g4 0 n4 none, .slice 1 4 g5 0 n5 none], 0, true, 26⟩] := by kernel_rfl
noncomputable def nR37h (a b c d z : List Int) (g1 g2 g3 g4 g5 n1 n2 n3 n4 n5 : Nat) (s : Int) : Res := runF eM1 f37 [] 400 [.agg [.slice 1 0 g1 0 n1 none, .slice 1 1 g2 0 n2 none, .slice 1 2 g3 0 n3 none, .int .i64 s, .slice 1 3 g4 0 n4 none, .slice 1 4 g5 0 n5 none]] [some ⟨.ints .u8 a, g1, false, 5⟩, some ⟨.ints .u8 b, g2, false, 5⟩, some ⟨.ints .u8 c, g3, false, 5⟩, some ⟨.ints .u8 d, g4, false, 5⟩, some ⟨.ints .u8 z, g5, false, 5⟩] [some true, some true, some true, some true, some false, some true, some true]
theorem nR37h_ok {a b c d z : List Int} {g1 g2 g3 g4 g5 n1 n2 n3 n4 n5 : Nat} {s : Int} (h : allP [.eqN g1 g1, .eqN g1 g1, .p (((↑n1 : Int) == 32) = true), .eqN g2 g2, .eqN g2 g2, .p (((↑n2 : Int) == 32) = true), .eqN g5 g5, .eqN g5 g5, .p (((↑n5 : Int) == 64) = true), .eqN g3 g3, .p (decide (1 ≤ (↑n3 : Int)) = true), .eqN g3 g3, .p (decide ((↑n3 : Int) ≤ 64) = true), .p (decide (1 ≤ s) = true), .p
 (decide (s ≤ 3) = true), .eqN g4 g4, .p (((↑n4 : Int) == 0) = false), .eqN g4 g4, .p (((↑n4 : Int) == 32) = true), .p ((s == 3) = true)]) : OkR (nR37h a b c d z g1 g2 g3 g4 g5 n1 n2 n3 n4 n5 s) := OkR.dem (fl := bitsF 50 508487412773319) (by kernel_rfl) (by kernel_rfl) (by kernel_rfl) h
theorem nR37h_val {a b c d z : List Int} {g1 g2 g3 g4 g5 n1 n2 n3 n4 n5 : Nat} {s : Int} : (nR37h a b c d z g1 g2 g3 g4 g5 n1 n2 n3 n4 n5 s).val = .tuple [] := by kernel_rfl
theorem nR37h_tab {a b c d z : List Int} {g1 g2 g3 g4 g5 n1 n2 n3 n4 n5 : Nat} {s : Int} : (nR37h a b c d z g1 g2 g3 g4 g5 n1 n2 n3 n4 n5 s).tab = [some ⟨.ints .u8 a, g1, false, 5⟩, some ⟨.ints .u8 b, g2, false, 5⟩, some ⟨.ints .u8 c, g3, false, 5⟩, some ⟨.ints .u8 d, g4, false, 5⟩, some ⟨.ints .u8 z, g5, false, 5⟩, some ⟨.agg [.slice 1 0 g1 0 n1 none, .slice 1 1 g2 0 n2 none, .slice 1 2 g3 0 n3
 none, .int .i64 s, .slice 1 3 g4 0 n4 none, .slice 1 4 g5 0 n5 none], 0, true, 26⟩] := by kernel_rfl
noncomputable def nP37a (a b c d z : List Int) (g1 g2 g3 g4 g5 n1 n2 n3 n4 n5 : Nat) (s : Int) : Res := fnRunP eM1 psN1 f37 400 1 [.agg [.slice 1 0 g1 0 n1 none, .slice 1 1 g2 0 n2 none, .slice 1 2 g3 0 n3 none, .int .i64 s, .slice 1 3 g4 0 n4 none, .slice 1 4 g5 0 n5 none]] [some ⟨.ints .u8 a, g1, false, 5⟩, some ⟨.ints .u8 b, g2, false, 5⟩, some ⟨.ints .u8 c, g3, false, 5⟩, some ⟨.ints .u8 d, g4, false, 5⟩, some ⟨.ints .u8 z, g5, false, 5⟩] []
theorem nP37a_ok {a b c d z : List Int} {g1 g2 g3 g4 g5 n1 n2 n3 n4 n5 : Nat} {s : Int} (h : allP [.eqN g1 g1, .eqN g1 g1, .p (((↑n1 : Int) == 32) = false)]) : OkR (nP37a a b c d z g1 g2 g3 g4 g5 n1 n2 n3 n4 n5 s) := OkR.dem (fl := [true, true, true, false, false, false]) (by kernel_rfl) (by kernel_rfl) (by kernel_rfl) h
theorem nP37a_val {a b c d z : List Int} {g1 g2 g3 g4 g5 n1 n2 n3 n4 n5 : Nat} {s : Int} : (nP37a a b c d z g1 g2 g3 g4 g5 n1 n2 n3 n4 n5 s).val = .iface 28 (.int .i64 1) := by kernel_rfl
theorem nP37a_tab {a b c d z : List Int} {g1 g2 g3 g4 g5 n1 n2 n3 n4 n5 : Nat} {s : Int} : (nP37a a b c d z g1 g2 g3 g4 g5 n1 n2 n3 n4 n5 s).tab = [some ⟨.ints .u8 a, g1, false, 5⟩, some ⟨.ints .u8 b, g2, false, 5⟩, some ⟨.ints .u8 c, g3, false, 5⟩, some ⟨.ints .u8 d, g4, false, 5⟩, some ⟨.ints .u8 z, g5, false, 5⟩, some ⟨.agg [.slice 1 0 g1 0 n1 none, .slice 1 1 g2 0 n2 none, .slice 1 2 g3 0 n3
 none, .int .i64 s, .slice 1 3 g4 0 n4 none, .slice 1 4 g5 0 n5 none], 0, true, 26⟩] := by kernel_rfl
noncomputable def nP37b (a b c d z : List Int) (g1 g2 g3 g4 g5 n1 n2 n3 n4 n5 : Nat) (s : Int) : Res := fnRunP eM1 psN1 f37 400 2 [.agg [.slice 1 0 g1 0 n1 none, .slice 1 1 g2 0 n2 none, .slice 1 2 g3 0 n3 none, .int .i64 s, .slice 1 3 g4 0 n4 none, .slice 1 4 g5 0 n5 none]] [some ⟨.ints .u8 a, g1, false, 5⟩, some ⟨.ints .u8 b, g2, false, 5⟩, some ⟨.ints .u8 c, g3, false, 5⟩, some ⟨.ints .u8 d, g4, false, 5⟩, some ⟨.ints .u8 z, g5, false, 5⟩] []
theorem nP37b_ok {a b c d z : List Int} {g1 g2 g3 g4 g5 n1 n2 n3 n4 n5 : Nat} {s : Int} (h : allP [.eqN g1 g1, .eqN g1 g1, .p (((↑n1 : Int) == 32) = true), .eqN g2 g2, .eqN g2 g2, .p (((↑n2 : Int) == 32) = false)]) : OkR (nP37b a b c d z g1 g2 g3 g4 g5 n1 n2 n3 n4 n5 s) := OkR.dem (fl := bitsF 12 455) (by kernel_rfl) (by kernel_rfl) (by kernel_rfl) h
theorem nP37b_val {a b c d z : List Int} {g1 g2 g3 g4 g5 n1 n2 n3 n4 n5 : Nat} {s : Int} : (nP37b a b c d z g1 g2 g3 g4 g5 n1 n2 n3 n4 n5 s).val = .iface 28 (.int .i64 1) := by kernel_rfl
theorem nP37b_tab {a b c d z : List Int} {g1 g2 g3 g4 g5 n1 n2 n3 n4 n5 : Nat} {s : Int} : (nP37b a b c d z g1 g2 g3 g4 g5 n1 n2 n3 n4 n5 s).tab = [some ⟨.ints .u8 a, g1, false, 5⟩, some ⟨.ints .u8 b, g2, false, 5⟩, some ⟨.ints .u8 c, g3, false, 5⟩, some ⟨.ints .u8 d, g4, false, 5⟩, some ⟨.ints .u8 z, g5, false, 5⟩, some ⟨.agg [.slice 1 0 g1 0 n1 none, .slice 1 1 g2 0 n2 none, .slice 1 2 g3 0 n3
 none, .int .i64 s, .slice 1 3 g4 0 n4 none, .slice 1 4 g5 0 n5 none], 0, true, 26⟩] := by kernel_rfl
noncomputable def nP37c (a b c d z : List Int) (g1 g2 g3 g4 g5 n1 n2 n3 n4 n5 : Nat) (s : Int) : Res := fnRunP eM1 psN1 f37 400 3 [.agg [.slice 1 0 g1 0 n1 none, .slice 1 1 g2 0 n2 none, .slice 1 2 g3 0 n3 none, .int .i64 s, .slice 1 3 g4 0 n4 none, .slice 1 4 g5 0 n5 none]] [some ⟨.ints .u8 a, g1, false, 5⟩, some ⟨.ints .u8 b, g2, false, 5⟩, some ⟨.ints .u8 c, g3, false, 5⟩, some ⟨.ints .u8 d, g4, false, 5⟩, some ⟨.ints .u8 z, g5, false, 5⟩] []
theorem nP37c_ok {a b c d z : List Int} {g1 g2 g3 g4 g5 n1 n2 n3 n4 n5 : Nat} {s : Int} (h : allP [.eqN g1 g1, .eqN g1 g1, .p (((↑n1 : Int) == 32) = true), .eqN g2 g2, .eqN g2 g2, .p (((↑n2 : Int) == 32) = true), .eqN g5 g5, .eqN g5 g5, .p (((↑n5 : Int) == 64) = false)]) : OkR (nP37c a b c d z g1 g2 g3 g4 g5 n1 n2 n3 n4 n5 s) := OkR.dem (fl := bitsF 18 29127) (by kernel_rfl) (by kernel_rfl) (by
 kernel_rfl) h
theorem nP37c_val {a b c d z : List Int} {g1 g2 g3 g4 g5 n1 n2 n3 n4 n5 : Nat} {s : Int} : (nP37c a b c d z g1 g2 g3 g4 g5 n1 n2 n3 n4 n5 s).val = .iface 28 (.int .i64 1) := by kernel_rfl
theorem nP37c_tab {a b c d z : List Int} {g1 g2 g3 g4 g5 n1 n2 n3 n4 n5 : Nat} {s : Int} : (nP37c a b c d z g1 g2 g3 g4 g5 n1 n2 n3 n4 n5 s).tab = [some ⟨.ints .u8 a, g1, false, 5⟩, some ⟨.ints .u8 b, g2, false, 5⟩, some ⟨.ints .u8 c, g3, false, 5⟩, some ⟨.ints .u8 d, g4, false, 5⟩, some ⟨.ints .u8 z, g5, false, 5⟩, some ⟨.agg [.slice 1 0 g1 0 n1 none, .slice 1 1 g2 0 n2 none, .slice 1 2 g3 0 n3
 none, .int .i64 s, .slice 1 3 g4 0 n4 none, .slice 1 4 g5 0 n5 none], 0, true, 26⟩] := by kernel_rfl
noncomputable def nP37d (a b c d z : List Int) (g1 g2 g3 g4 g5 n1 n2 n3 n4 n5 : Nat) (s : Int) : Res := fnRunP eM1 psN1 f37 400 4 [.agg [.slice 1 0 g1 0 n1 none, .slice 1 1 g2 0 n2 none, .slice 1 2 g3 0 n3 none, .int .i64 s, .slice 1 3 g4 0 n4 none, .slice 1 4 g5 0 n5 none]] [some ⟨.ints .u8 a, g1, false, 5⟩, some ⟨.ints .u8 b, g2, false, 5⟩, some ⟨.ints .u8 c, g3, false, 5⟩, some ⟨.ints .u8 d, g4, false, 5⟩, some ⟨.ints .u8 z, g5, false, 5⟩] [some false]
theorem nP37d_ok {a b c d z : List Int} {g1 g2 g3 g4 g5 n1 n2 n3 n4 n5 : Nat} {s : Int} (h : allP [.eqN g1 g1, .eqN g1 g1, .p (((↑n1 : Int) == 32) = true), .eqN g2 g2, .eqN g2 g2, .p (((↑n2 : Int) == 32) = true), .eqN g5 g5, .eqN g5 g5, .p (((↑n5 : Int) == 64) = true), .eqN g3 g3, .p (decide (1 ≤ (↑n3 : Int)) = false)]) : OkR (nP37d a b c d z g1 g2 g3 g4 g5 n1 n2 n3 n4 n5 s) := OkR.dem (fl := bitsF
 23 1864135) (by kernel_rfl) (by kernel_rfl) (by kernel_rfl) h
theorem nP37d_val {a b c d z : List Int} {g1 g2 g3 g4 g5 n1 n2 n3 n4 n5 : Nat} {s : Int} : (nP37d a b c d z g1 g2 g3 g4 g5 n1 n2 n3 n4 n5 s).val = .iface 28 (.int .i64 1) := by kernel_rfl
theorem nP37d_tab {a b c d z : List Int} {g1 g2 g3 g4 g5 n1 n2 n3 n4 n5 : Nat} {s : Int} : (nP37d a b c d z g1 g2 g3 g4 g5 n1 n2 n3 n4 n5 s).tab = [some ⟨.ints .u8 a, g1, false, 5⟩, some ⟨.ints .u8 b, g2, false, 5⟩, some ⟨.ints .u8 c, g3, false, 5⟩, some ⟨.ints .u8 d, g4, false, 5⟩, some ⟨.ints .u8 z, g5, false, 5⟩, some ⟨.agg [.slice 1 0 g1 0 n1 none, .slice 1 1 g2 0 n2 none, .slice 1 2 g3 0 n3
 none, .int .i64 s, .slice 1 3 g4 0 n4 none, .slice 1 4 g5 0 n5 none], 0, true, 26⟩] := by kernel_rfl
noncomputable def nP37e (a b c d z : List Int) (g1 g2 g3 g4 g5 n1 n2 n3 n4 n5 : Nat) (s : Int) : Res := fnRunP eM1 psN1 f37 400 4 [.agg [.slice 1 0 g1 0 n1 none, .slice 1 1 g2 0 n2 none, .slice 1 2 g3 0 n3 none, .int .i64 s, .slice 1 3 g4 0 n4 none, .slice 1 4 g5 0 n5 none]] [some ⟨.ints .u8 a, g1, false, 5⟩, some ⟨.ints .u8 b, g2, false, 5⟩, some ⟨.ints .u8 c, g3, false, 5⟩, some ⟨.ints .u8 d, g4, false, 5⟩, some ⟨.ints .u8 z, g5, false, 5⟩] [some true, some false]
theorem nP37e_ok {a b c d z : List Int} {g1 g2 g3 g4 g5 n1 n2 n3 n4 n5 : Nat} {s : Int} (h : allP [.eqN g1 g1, .eqN g1 g1, .p (((↑n1 : Int) == 32) = true), .eqN g2 g2, .eqN g2 g2, .p (((↑n2 : Int) == 32) = true), .eqN g5 g5, .eqN g5 g5, .p (((↑n5 : Int) == 64) = true), .eqN g3 g3, .p (decide (1 ≤ (↑n3 : Int)) = true), .eqN g3 g3, .p (decide ((↑n3 : Int) ≤ 64) = false)]) : OkR (nP37e a b c d z g1 g2
 g3 g4 g5 n1 n2 n3 n4 n5 s) := OkR.dem (fl := bitsF 28 60584391) (by kernel_rfl) (by kernel_rfl) (by kernel_rfl) h
theorem nP37e_val {a b c d z : List Int} {g1 g2 g3 g4 g5 n1 n2 n3 n4 n5 : Nat} {s : Int} : (nP37e a b c d z g1 g2 g3 g4 g5 n1 n2 n3 n4 n5 s).val = .iface 28 (.int .i64 1) := by kernel_rfl
theorem nP37e_tab {a b c d z : List Int} {g1 g2 g3 g4 g5 n1 n2 n3 n4 n5 : Nat} {s : Int} : (nP37e a b c d z g1 g2 g3 g4 g5 n1 n2 n3 n4 n5 s).tab = [some ⟨.ints .u8 a, g1, false, 5⟩, some ⟨.ints .u8 b, g2, false, 5⟩, some ⟨.ints .u8 c, g3, false, 5⟩, some ⟨.ints .u8 d, g4, false, 5⟩, some ⟨.ints .u8 z, g5, false, 5⟩, some ⟨.agg [.slice 1 0 g1 0 n1 none, .slice 1 1 g2 0 n2 none, .slice 1 2 g3 0 n3
 none, .int .i64 s, .slice 1 3 g4 0 n4 none, .slice 1 4 g5 0 n5 none], 0, true, 26⟩] := by kernel_rfl
noncomputable def nP37f (a b c d z : List Int) (g1 g2 g3 g4 g5 n1 n2 n3 n4 n5 : Nat) (s : Int) : Res := fnRunP eM1 psN1 f37 400 4 [.agg [.slice 1 0 g1 0 n1 none, .slice 1 1 g2 0 n2 none, .slice 1 2 g3 0 n3 none, .int .i64 s, .slice 1 3 g4 0 n4 none, .slice 1 4 g5 0 n5 none]] [some ⟨.ints .u8 a, g1, false, 5⟩, some ⟨.ints .u8 b, g2, false, 5⟩, some ⟨.ints .u8 c, g3, false, 5⟩, some ⟨.ints .u8 d, g4, false, 5⟩, some ⟨.ints .u8 z, g5, false, 5⟩] [some true, some true, some false]
theorem nP37f_ok {a b c d z : List Int} {g1 g2 g3 g4 g5 n1 n2 n3 n4 n5 : Nat} {s : Int} (h : allP [.eqN g1 g1, .eqN g1 g1, .p (((↑n1 : Int) == 32) = true), .eqN g2 g2, .eqN g2 g2, .p (((↑n2 : Int) == 32) = true), .eqN g5 g5, .eqN g5 g5, .p (((↑n5 : Int) == 64) = true), .eqN g3 g3, .p (decide (1 ≤ (↑n3 : Int)) = true), .eqN g3 g3, .p (decide ((↑n3 : Int) ≤ 64) = true), .p (decide (1 ≤ s) = false)])
 : OkR (nP37f a b c d z g1 g2 g3 g4 g5 n1 n2 n3 n4 n5 s) := OkR.dem (fl := bitsF 32 1939632583) (by kernel_rfl) (by kernel_rfl) (by kernel_rfl) h
theorem nP37f_val {a b c d z : List Int} {g1 g2 g3 g4 g5 n1 n2 n3 n4 n5 : Nat} {s : Int} : (nP37f a b c d z g1 g2 g3 g4 g5 n1 n2 n3 n4 n5 s).val = .iface 28 (.int .i64 1) := by kernel_rfl
theorem nP37f_tab {a b c d z : List Int} {g1 g2 g3 g4 g5 n1 n2 n3 n4 n5 : Nat} {s : Int} : (nP37f a b c d z g1 g2 g3 g4 g5 n1 n2 n3 n4 n5 s).tab = [some ⟨.ints .u8 a, g1, false, 5⟩, some ⟨.ints .u8 b, g2, false, 5⟩, some ⟨.ints .u8 c, g3, false, 5⟩, some ⟨.ints .u8 d, g4, false, 5⟩, some ⟨.ints .u8 z, g5, false, 5⟩, some ⟨.agg [.slice 1 0 g1 0 n1 none, .slice 1 1 g2 0 n2 none, .slice 1 2 g3 0 n3
 none, .int .i64 s, .slice 1 3 g4 0 n4 none, .slice 1 4 g5 0 n5 none], 0, true, 26⟩] := by kernel_rfl
noncomputable def nP37g (a b c d z : List Int) (g1 g2 g3 g4 g5 n1 n2 n3 n4 n5 : Nat) (s : Int) : Res := fnRunP eM1 psN1 f37 400 4 [.agg [.slice 1 0 g1 0 n1 none, .slice 1 1 g2 0 n2 none, .slice 1 2 g3 0 n3 none, .int .i64 s, .slice 1 3 g4 0 n4 none, .slice 1 4 g5 0 n5 none]] [some ⟨.ints .u8 a, g1, false, 5⟩, some ⟨.ints .u8 b, g2, false, 5⟩, some ⟨.ints .u8 c, g3, false, 5⟩, some ⟨.ints .u8 d, g4, false, 5⟩, some ⟨.ints .u8 z, g5, false, 5⟩] [some true, some true, some true, some false]
theorem nP37g_ok {a b c d z : List Int} {g1 g2 g3 g4 g5 n1 n2 n3 n4 n5 : Nat} {s : Int} (h : allP [.eqN g1 g1, .eqN g1 g1, .p (((↑n1 : Int) == 32) = true), .eqN g2 g2, .eqN g2 g2, .p (((↑n2 : Int) == 32) = true), .eqN g5 g5, .eqN g5 g5, .p (((↑n5 : Int) == 64) = true), .eqN g3 g3, .p (decide (1 ≤ (↑n3 : Int)) = true), .eqN g3 g3, .p (decide ((↑n3 : Int) ≤ 64) = true), .p (decide (1 ≤ s) = true), .p
 (decide (s ≤ 3) = false)]) : OkR (nP37g a b c d z g1 g2 g3 g4 g5 n1 n2 n3 n4 n5 s) := OkR.dem (fl := bitsF 36 32004403655) (by kernel_rfl) (by kernel_rfl) (by kernel_rfl) h
theorem nP37g_val {a b c d z : List Int} {g1 g2 g3 g4 g5 n1 n2 n3 n4 n5 : Nat} {s : Int} : (nP37g a b c d z g1 g2 g3 g4 g5 n1 n2 n3 n4 n5 s).val = .iface 28 (.int .i64 1) := by kernel_rfl
theorem nP37g_tab {a b c d z : List Int} {g1 g2 g3 g4 g5 n1 n2 n3 n4 n5 : Nat} {s : Int} : (nP37g a b c d z g1 g2 g3 g4 g5 n1 n2 n3 n4 n5 s).tab = [some ⟨.ints .u8 a, g1, false, 5⟩, some ⟨.ints .u8 b, g2, false, 5⟩, some ⟨.ints .u8 c, g3, false, 5⟩, some ⟨.ints .u8 d, g4, false, 5⟩, some ⟨.ints .u8 z, g5, false, 5⟩, some ⟨.agg [.slice 1 0 g1 0 n1 none, .slice 1 1 g2 0 n2 none, .slice 1 2 g3 0 n3
 none, .int .i64 s, .slice 1 3 g4 0 n4 none, .slice 1 4 g5 0 n5 none], 0, true, 26⟩] := by kernel_rfl
noncomputable def nP37h (a b c d z : List Int) (g1 g2 g3 g4 g5 n1 n2 n3 n4 n5 : Nat) (s : Int) : Res := fnRunP eM1 psN1 f37 400 5 [.agg [.slice 1 0 g1 0 n1 none, .slice 1 1 g2 0 n2 none, .slice 1 2 g3 0 n3 none, .int .i64 s, .slice 1 3 g4 0 n4 none, .slice 1 4 g5 0 n5 none]] [some ⟨.ints .u8 a, g1, false, 5⟩, some ⟨.ints .u8 b, g2, false, 5⟩, some ⟨.ints .u8 c, g3, false, 5⟩, some ⟨.ints .u8 d, g4, false, 5⟩, some ⟨.ints .u8 z, g5, false, 5⟩] [some true, some true, some true, some true, some false, some false]
theorem nP37h_ok {a b c d z : List Int} {g1 g2 g3 g4 g5 n1 n2 n3 n4 n5 : Nat} {s : Int} (h : allP [.eqN g1 g1, .eqN g1 g1, .p (((↑n1 : Int) == 32) = true), .eqN g2 g2, .eqN g2 g2, .p (((↑n2 : Int) == 32) = true), .eqN g5 g5, .eqN g5 g5, .p (((↑n5 : Int) == 64) = true), .eqN g3 g3, .p (decide (1 ≤ (↑n3 : Int)) = true), .eqN g3 g3, .p (decide ((↑n3 : Int) ≤ 64) = true), .p (decide (1 ≤ s) = true), .p
 (decide (s ≤ 3) = true), .eqN g4 g4, .p (((↑n4 : Int) == 0) = false), .eqN g4 g4, .p (((↑n4 : Int) == 32) = false)]) : OkR (nP37h a b c d z g1 g2 g3 g4 g5 n1 n2 n3 n4 n5 s) := OkR.dem (fl := bitsF 46 15906203529671) (by kernel_rfl) (by kernel_rfl) (by kernel_rfl) h
theorem nP37h_val {a b c d z : List Int} {g1 g2 g3 g4 g5 n1 n2 n3 n4 n5 : Nat} {s : Int} : (nP37h a b c d z g1 g2 g3 g4 g5 n1 n2 n3 n4 n5 s).val = .iface 28 (.int .i64 1) := by kernel_rfl
theorem nP37h_tab {a b c d z : List Int} {g1 g2 g3 g4 g5 n1 n2 n3 n4 n5 : Nat} {s : Int} : (nP37h a b c d z g1 g2 g3 g4 g5 n1 n2 n3 n4 n5 s).tab = [some ⟨.ints .u8 a, g1, false, 5⟩, some ⟨.ints .u8 b, g2, false, 5⟩, some ⟨.ints .u8 c, g3, false, 5⟩, some ⟨.ints .u8 d, g4, false, 5⟩, some ⟨.ints .u8 z, g5, false, 5⟩, some ⟨.agg [.slice 1 0 g1 0 n1 none, .slice 1 1 g2 0 n2 none, .slice 1 2 g3 0 n3
 none, .int .i64 s, .slice 1 3 g4 0 n4 none, .slice 1 4 g5 0 n5 none], 0, true, 26⟩] := by kernel_rfl
noncomputable def nP37i (a b c d z : List Int) (g1 g2 g3 g4 g5 n1 n2 n3 n4 n5 : Nat) (s : Int) : Res := fnRunP eM1 psN1 f37 400 5 [.agg [.slice 1 0 g1 0 n1 none, .slice 1 1 g2 0 n2 none, .slice 1 2 g3 0 n3 none, .int .i64 s, .slice 1 3 g4 0 n4 none, .slice 1 4 g5 0 n5 none]] [some ⟨.ints .u8 a, g1, false, 5⟩, some ⟨.ints .u8 b, g2, false, 5⟩, some ⟨.ints .u8 c, g3, false, 5⟩, some ⟨.ints .u8 d, g4, false, 5⟩, some ⟨.ints .u8 z, g5, false, 5⟩] [some true, some true, some true, some true, some false, some true, some false]
theorem nP37i_ok {a b c d z : List Int} {g1 g2 g3 g4 g5 n1 n2 n3 n4 n5 : Nat} {s : Int} (h : allP [.eqN g1 g1, .eqN g1 g1, .p (((↑n1 : Int) == 32) = true), .eqN g2 g2, .eqN g2 g2, .p (((↑n2 : Int) == 32) = true), .eqN g5 g5, .eqN g5 g5, .p (((↑n5 : Int) == 64) = true), .eqN g3 g3, .p (decide (1 ≤ (↑n3 : Int)) = true), .eqN g3 g3, .p (decide ((↑n3 : Int) ≤ 64) = true), .p (decide (1 ≤ s) = true), .p
 (decide (s ≤ 3) = true), .eqN g4 g4, .p (((↑n4 : Int) == 0) = false), .eqN g4 g4, .p (((↑n4 : Int) == 32) = true), .p ((s == 3) = false)]) : OkR (nP37i a b c d z g1 g2 g3 g4 g5 n1 n2 n3 n4 n5 s) := OkR.dem (fl := bitsF 50 508487412773319) (by kernel_rfl) (by kernel_rfl) (by kernel_rfl) h
theorem nP37i_val {a b c d z : List Int} {g1 g2 g3 g4 g5 n1 n2 n3 n4 n5 : Nat} {s : Int} : (nP37i a b c d z g1 g2 g3 g4 g5 n1 n2 n3 n4 n5 s).val = .iface 28 (.int .i64 1) := by kernel_rfl
theorem nP37i_tab {a b c d z : List Int} {g1 g2 g3 g4 g5 n1 n2 n3 n4 n5 : Nat} {s : Int} : (nP37i a b c d z g1 g2 g3 g4 g5 n1 n2 n3 n4 n5 s).tab = [some ⟨.ints .u8 a, g1, false, 5⟩, some ⟨.ints .u8 b, g2, false, 5⟩, some ⟨.ints .u8 c, g3, false, 5⟩, some ⟨.ints .u8 d, g4, false, 5⟩, some ⟨.ints .u8 z, g5, false, 5⟩, some ⟨.agg [.slice 1 0 g1 0 n1 none, .slice 1 1 g2 0 n2 none, .slice 1 2 g3 0 n3
 none, .int .i64 s, .slice 1 3 g4 0 n4 none, .slice 1 4 g5 0 n5 none], 0, true, 26⟩] := by kernel_rfl
noncomputable def nsm37c (args : List AVal) (T : Tab) (a : List Int) (b : List Int) (c : List Int) (d : List Int) (z : List Int) (g1 : Nat) (g2 : Nat) (g3 : Nat) (g4 : Nat) (g5 : Nat) (n1 : Nat) (n2 : Nat) (n3 : Nat) (n4 : Nat) (n5 : Nat) (s : Int) : Res := ⟨[.tab T [some ⟨.ints .u8 a, g1, false, 5⟩, some ⟨.ints .u8 b, g2, false, 5⟩, some ⟨.ints .u8 c, g3, false, 5⟩, some ⟨.ints .u8 d, g4, false, 5⟩, some ⟨.ints .u8 z, g5, false, 5⟩], .val (.tuple args) (.tuple [.agg [.slice 1 0 g1 0 n1 none, .slice 1 1 g2 0 n2 none, .slice 1 2 g3 0 n3 none, .int .i64 s, .slice 1 3 g4 0 n4 none, .slice 1 4 g5 0 n5 none]]), .p (RightN n1 n2 n3 s n4 n5)], un, [some ⟨.ints .u8 a, g1, false, 5⟩, some ⟨.ints .u8 b, g2, false, 5⟩, some ⟨.ints .u8 c, g3, false, 5⟩, some ⟨.ints .u8 d, g4, false, 5⟩, some ⟨.ints .u8 z, g5, false, 5⟩]⟩
theorem nsm37c_ok {args : List AVal} {T : Tab} {a : List Int} {b : List Int} {c : List Int} {d : List Int} {z : List Int} {g1 : Nat} {g2 : Nat} {g3 : Nat} {g4 : Nat} {g5 : Nat} {n1 : Nat} {n2 : Nat} {n3 : Nat} {n4 : Nat} {n5 : Nat} {s : Int} (h : allP (nsm37c args T a b c d z g1 g2 g3 g4 g5 n1 n2 n3 n4 n5 s).cs) : Small prog (fun _ => none) 37 args T (nsm37c args T a b c d z g1 g2 g3 g4 g5 n1 n2 n3 n4 n5 s).val (nsm37c args T a b c d z g1 g2 g3 g4 g5 n1 n2 n3 n4 n5 s).tab := by
  obtain ⟨hT, hv, h1, _⟩ := h
  simp only [Con.h] at hT hv h1
  injection hv with hv
  subst hT hv
  have h1 : RightN n1 n2 n3 s n4 n5 := h1
  obtain ⟨q1, q2, q3, q4, q5, q6, q7, q8⟩ := h1
  rcases q8 with q8 | ⟨q8, q9⟩
  · exact small_drop (small_of (R := nR37e a b c d z g1 g2 g3 g4 g5 n1 n2 n3 n4 n5 s) eM1_ok hmN (f := 37) (fn := f37) (by kernel_rfl) (by kernel_rfl) FnOrc.nil rfl (nR37e_ok (by
      simp only [allP, Con.h, eq_self, true_and, and_true, beq_iff_eq, beq_eq_false_iff_ne, ne_eq, decide_eq_true_eq, decide_eq_false_iff_not]
      omega)) nR37e_val nR37e_tab)
  · exact small_drop (small_of (R := nR37h a b c d z g1 g2 g3 g4 g5 n1 n2 n3 n4 n5 s) eM1_ok hmN (f := 37) (fn := f37) (by kernel_rfl) (by kernel_rfl) FnOrc.nil rfl (nR37h_ok (by
      simp only [allP, Con.h, eq_self, true_and, and_true, beq_iff_eq, beq_eq_false_iff_ne, ne_eq, decide_eq_true_eq, decide_eq_false_iff_not]
      omega)) nR37h_val nR37h_tab)
noncomputable def nsm37 : Summary := fun args T => nsm37c args T (xsAt T 0) (xsAt T 1) (xsAt T 2) (xsAt T 3) (xsAt T 4) (gAt T 0) (gAt T 1) (gAt T 2) (gAt T 3) (gAt T 4) (lenOf ((vAt args 0).get 0)) (lenOf ((vAt args 0).get 1)) (lenOf ((vAt args 0).get 2)) (lenOf ((vAt args 0).get 4)) (lenOf ((vAt args 0).get 5)) (iOf ((vAt args 0).get 3))
theorem nsm37_ok : SmOk prog (fun _ => none) 37 nsm37 := fun args T h => nsm37c_ok h
noncomputable def nS37 : Summary := callR nsm37 []
theorem nS37_ok : SumOk prog (fun _ => none) 37 nS37 := callR_ok nsm37_ok []
noncomputable def nsm37pc (args : List AVal) (T : Tab) (a : List Int) (b : List Int) (c : List Int) (d : List Int) (z : List Int) (g1 : Nat) (g2 : Nat) (g3 : Nat) (g4 : Nat) (g5 : Nat) (n1 : Nat) (n2 : Nat) (n3 : Nat) (n4 : Nat) (n5 : Nat) (s : Int) : Res := ⟨[.tab T [some ⟨.ints .u8 a, g1, false, 5⟩, some ⟨.ints .u8 b, g2, false, 5⟩, some ⟨.ints .u8 c, g3, false, 5⟩, some ⟨.ints .u8 d, g4, false, 5⟩, some ⟨.ints .u8 z, g5, false, 5⟩], .val (.tuple args) (.tuple [.agg [.slice 1 0 g1 0 n1 none, .slice 1 1 g2 0 n2 none, .slice 1 2 g3 0 n3 none, .int .i64 s, .slice 1 3 g4 0 n4 none, .slice 1 4 g5 0 n5 none]]), .p (¬ RightN n1 n2 n3 s n4 n5)], (.iface 28 (.int .i64 1)), [some ⟨.ints .u8 a, g1, false, 5⟩, some ⟨.ints .u8 b, g2, false, 5⟩, some ⟨.ints .u8 c, g3, false, 5⟩, some ⟨.ints .u8 d, g4, false, 5⟩, some ⟨.ints .u8 z, g5, false, 5⟩]⟩
theorem nsm37pc_ok {args : List AVal} {T : Tab} {a : List Int} {b : List Int} {c : List Int} {d : List Int} {z : List Int} {g1 : Nat} {g2 : Nat} {g3 : Nat} {g4 : Nat} {g5 : Nat} {n1 : Nat} {n2 : Nat} {n3 : Nat} {n4 : Nat} {n5 : Nat} {s : Int} (h : allP (nsm37pc args T a b c d z g1 g2 g3 g4 g5 n1 n2 n3 n4 n5 s).cs) : SmallE finP prog (fun _ => none) 37 args T (nsm37pc args T a b c d z g1 g2 g3 g4 g5 n1 n2 n3 n4 n5 s).val (nsm37pc args T a b c d z g1 g2 g3 g4 g5 n1 n2 n3 n4 n5 s).tab := by
  obtain ⟨hT, hv, h1, _⟩ := h
  simp only [Con.h] at hT hv h1
  injection hv with hv
  subst hT hv
  have h1 : ¬ RightN n1 n2 n3 s n4 n5 := h1
  unfold RightN at h1
  by_cases qa : n1 = 32
  rotate_left
  · exact small_drop (small_ofP (R := nP37a a b c d z g1 g2 g3 g4 g5 n1 n2 n3 n4 n5 s) eM1_ok hmN psN1_ok (f := 37) (fn := f37) (by kernel_rfl) rfl (nP37a_ok (by
      simp only [allP, Con.h, eq_self, true_and, and_true, beq_iff_eq, beq_eq_false_iff_ne, ne_eq, decide_eq_true_eq, decide_eq_false_iff_not]
      omega)) nP37a_val nP37a_tab)
  by_cases qb : n2 = 32
  rotate_left
  · exact small_drop (small_ofP (R := nP37b a b c d z g1 g2 g3 g4 g5 n1 n2 n3 n4 n5 s) eM1_ok hmN psN1_ok (f := 37) (fn := f37) (by kernel_rfl) rfl (nP37b_ok (by
      simp only [allP, Con.h, eq_self, true_and, and_true, beq_iff_eq, beq_eq_false_iff_ne, ne_eq, decide_eq_true_eq, decide_eq_false_iff_not]
      omega)) nP37b_val nP37b_tab)
  by_cases qc : n5 = 64
  rotate_left
  · exact small_drop (small_ofP (R := nP37c a b c d z g1 g2 g3 g4 g5 n1 n2 n3 n4 n5 s) eM1_ok hmN psN1_ok (f := 37) (fn := f37) (by kernel_rfl) rfl (nP37c_ok (by
      simp only [allP, Con.h, eq_self, true_and, and_true, beq_iff_eq, beq_eq_false_iff_ne, ne_eq, decide_eq_true_eq, decide_eq_false_iff_not]
      omega)) nP37c_val nP37c_tab)
  by_cases qd : 1 ≤ n3
  rotate_left
  · exact small_drop (small_ofP (R := nP37d a b c d z g1 g2 g3 g4 g5 n1 n2 n3 n4 n5 s) eM1_ok hmN psN1_ok (f := 37) (fn := f37) (by kernel_rfl) rfl (nP37d_ok (by
      simp only [allP, Con.h, eq_self, true_and, and_true, beq_iff_eq, beq_eq_false_iff_ne, ne_eq, decide_eq_true_eq, decide_eq_false_iff_not]
      omega)) nP37d_val nP37d_tab)
  by_cases qe : n3 ≤ 64
  rotate_left
  · exact small_drop (small_ofP (R := nP37e a b c d z g1 g2 g3 g4 g5 n1 n2 n3 n4 n5 s) eM1_ok hmN psN1_ok (f := 37) (fn := f37) (by kernel_rfl) rfl (nP37e_ok (by
      simp only [allP, Con.h, eq_self, true_and, and_true, beq_iff_eq, beq_eq_false_iff_ne, ne_eq, decide_eq_true_eq, decide_eq_false_iff_not]
      omega)) nP37e_val nP37e_tab)
  by_cases qf : 1 ≤ s
  rotate_left
  · exact small_drop (small_ofP (R := nP37f a b c d z g1 g2 g3 g4 g5 n1 n2 n3 n4 n5 s) eM1_ok hmN psN1_ok (f := 37) (fn := f37) (by kernel_rfl) rfl (nP37f_ok (by
      simp only [allP, Con.h, eq_self, true_and, and_true, beq_iff_eq, beq_eq_false_iff_ne, ne_eq, decide_eq_true_eq, decide_eq_false_iff_not]
      omega)) nP37f_val nP37f_tab)
  by_cases qg : s ≤ 3
  rotate_left
  · exact small_drop (small_ofP (R := nP37g a b c d z g1 g2 g3 g4 g5 n1 n2 n3 n4 n5 s) eM1_ok hmN psN1_ok (f := 37) (fn := f37) (by kernel_rfl) rfl (nP37g_ok (by
      simp only [allP, Con.h, eq_self, true_and, and_true, beq_iff_eq, beq_eq_false_iff_ne, ne_eq, decide_eq_true_eq, decide_eq_false_iff_not]
      omega)) nP37g_val nP37g_tab)
  by_cases qh : n4 = 0 ∨ n4 = 32
  rotate_left
  · exact small_drop (small_ofP (R := nP37h a b c d z g1 g2 g3 g4 g5 n1 n2 n3 n4 n5 s) eM1_ok hmN psN1_ok (f := 37) (fn := f37) (by kernel_rfl) rfl (nP37h_ok (by
      simp only [allP, Con.h, eq_self, true_and, and_true, beq_iff_eq, beq_eq_false_iff_ne, ne_eq, decide_eq_true_eq, decide_eq_false_iff_not]
      omega)) nP37h_val nP37h_tab)
  by_cases qi : n4 = 0 ∨ s = 3
  rotate_left
  · exact small_drop (small_ofP (R := nP37i a b c d z g1 g2 g3 g4 g5 n1 n2 n3 n4 n5 s) eM1_ok hmN psN1_ok (f := 37) (fn := f37) (by kernel_rfl) rfl (nP37i_ok (by
      simp only [allP, Con.h, eq_self, true_and, and_true, beq_iff_eq, beq_eq_false_iff_ne, ne_eq, decide_eq_true_eq, decide_eq_false_iff_not]
      omega)) nP37i_val nP37i_tab)
  exfalso
  omega
noncomputable def nsm37p : Summary := fun args T => nsm37pc args T (xsAt T 0) (xsAt T 1) (xsAt T 2) (xsAt T 3) (xsAt T 4) (gAt T 0) (gAt T 1) (gAt T 2) (gAt T 3) (gAt T 4) (lenOf ((vAt args 0).get 0)) (lenOf ((vAt args 0).get 1)) (lenOf ((vAt args 0).get 2)) (lenOf ((vAt args 0).get 4)) (lenOf ((vAt args 0).get 5)) (iOf ((vAt args 0).get 3))
theorem nsm37p_ok : SmOkP prog (fun _ => none) 37 nsm37p := fun args T h => nsm37pc_ok h
noncomputable def nP37 : Summary := callR nsm37p []
theorem nP37_ok : SumOkP prog (fun _ => none) 37 nP37 := callR_okP nsm37p_ok []
end Go.Abs

set_option linter.unusedVariables false
set_option linter.unusedSimpArgs false
set_option maxRecDepth 100000
set_option maxHeartbeats 4000000
namespace Go.Abs
open Go.Proofs Go.Proofs.Try
end Go.Abs

set_option linter.unusedVariables false
set_option linter.unusedSimpArgs false
set_option maxRecDepth 100000
set_option maxHeartbeats 4000000
namespace Go.Abs
open Go.Proofs Go.Proofs.Try
end Go.Abs

set_option linter.unusedVariables false
set_option linter.unusedSimpArgs false
set_option maxRecDepth 100000
namespace Go.Abs
open Go.Proofs Go.Proofs.Try
/-! ### CodecNumbers: what was written is read back -/
theorem mid_get {P x S : List Int} {i : Nat} (h : i < x.length) : (P ++ x ++ S).getD (P.length + i) 0 = x.getD i 0 := by
  rw [List.getD_eq_getElem?_getD, List.getD_eq_getElem?_getD, List.append_assoc, List.getElem?_append_right (by omega), show P.length + i - P.length = i by omega, List.getElem?_append_left h]
theorem iand_mod {a : Int} (k : Nat) (ha : 0 ≤ a) : iand a ((2 : Int) ^ k - 1) = a % 2 ^ k := by
  obtain ⟨n, rfl⟩ := Int.eq_ofNat_of_zero_le ha
  have e : ((2 : Int) ^ k - 1) = ((2 ^ k - 1 : Nat) : Int) := by
    have : 1 ≤ 2 ^ k := Nat.one_le_two_pow
    rw [Int.ofNat_sub this]
    simp
  unfold iand
  rw [e, Int.toNat_natCast, Int.toNat_natCast, Nat.and_two_pow_sub_one_eq_mod]
  simp
theorem be_back1 {P S : List Int} {n : Int} (h0 : 0 ≤ n) (h1 : n < 256) : beN 1 (P ++ beLaw n 1 ++ S) P.length = n := by
  have g0 : (P ++ beLaw n 1 ++ S).getD (P.length + 0) 0 = n % 256 := by rw [mid_get (by show 0 < 1; decide)]; show n / 1 % 256 = _; omega
  unfold beN beN
  rw [g0]
  omega
theorem be_back2 {P S : List Int} {n : Int} (h0 : 0 ≤ n) (h1 : n < 65536) : beN 2 (P ++ beLaw n 2 ++ S) P.length = n := by
  have g0 : (P ++ beLaw n 2 ++ S).getD (P.length + 0) 0 = n / 256 % 256 := by rw [mid_get (by show 0 < 2; decide)]; rfl
  have g1 : (P ++ beLaw n 2 ++ S).getD (P.length + 1) 0 = n / 1 % 256 := by rw [mid_get (by show 1 < 2; decide)]; rfl
  unfold beN beN beN
  rw [g0, g1]
  omega
theorem be_back4 {P S : List Int} {n : Int} (h0 : 0 ≤ n) (h1 : n < 4294967296) : beN 4 (P ++ beLaw n 4 ++ S) P.length = n := by
  have g0 : (P ++ beLaw n 4 ++ S).getD (P.length + 0) 0 = n / 16777216 % 256 := by rw [mid_get (by show 0 < 4; decide)]; rfl
  have g1 : (P ++ beLaw n 4 ++ S).getD (P.length + 1) 0 = n / 65536 % 256 := by rw [mid_get (by show 1 < 4; decide)]; rfl
  have g2 : (P ++ beLaw n 4 ++ S).getD (P.length + 2) 0 = n / 256 % 256 := by rw [mid_get (by show 2 < 4; decide)]; rfl
  have g3 : (P ++ beLaw n 4 ++ S).getD (P.length + 3) 0 = n / 1 % 256 := by rw [mid_get (by show 3 < 4; decide)]; rfl
  unfold beN beN beN beN beN
  rw [g0, g1, g2, g3]
  omega
theorem be_back8 {P S : List Int} {n : Int} (h0 : 0 ≤ n) (h1 : n < 4611686018427387904) : beN 8 (P ++ beLaw n 8 ++ S) P.length = n := by
  have g0 : (P ++ beLaw n 8 ++ S).getD (P.length + 0) 0 = n / 72057594037927936 % 256 := by rw [mid_get (by show 0 < 8; decide)]; rfl
  have g1 : (P ++ beLaw n 8 ++ S).getD (P.length + 1) 0 = n / 281474976710656 % 256 := by rw [mid_get (by show 1 < 8; decide)]; rfl
  have g2 : (P ++ beLaw n 8 ++ S).getD (P.length + 2) 0 = n / 1099511627776 % 256 := by rw [mid_get (by show 2 < 8; decide)]; rfl
  have g3 : (P ++ beLaw n 8 ++ S).getD (P.length + 3) 0 = n / 4294967296 % 256 := by rw [mid_get (by show 3 < 8; decide)]; rfl
  have g4 : (P ++ beLaw n 8 ++ S).getD (P.length + 4) 0 = n / 16777216 % 256 := by rw [mid_get (by show 4 < 8; decide)]; rfl
  have g5 : (P ++ beLaw n 8 ++ S).getD (P.length + 5) 0 = n / 65536 % 256 := by rw [mid_get (by show 5 < 8; decide)]; rfl
  have g6 : (P ++ beLaw n 8 ++ S).getD (P.length + 6) 0 = n / 256 % 256 := by rw [mid_get (by show 6 < 8; decide)]; rfl
  have g7 : (P ++ beLaw n 8 ++ S).getD (P.length + 7) 0 = n / 1 % 256 := by rw [mid_get (by show 7 < 8; decide)]; rfl
  unfold beN beN beN beN beN beN beN beN beN
  rw [g0, g1, g2, g3, g4, g5, g6, g7]
  omega
theorem rn_back {P S : List Int} {n size : Int} (hs : sizedLaw size) (h0 : 0 ≤ n) (h1 : n < mostLaw size) : rnP (P ++ numLaw n size ++ S) P.length 0 size = (n, P.length + (numLaw n size).length, 0) := by
  rw [(num_in hs ⟨h0, h1⟩).1]
  have hl : (beLaw n size.toNat).length = size.toNat := by unfold beLaw; simp
  have hlow : LowLaw (P ++ beLaw n size.toNat ++ S) P.length size := fun h8 => by
    subst h8
    have g0 : (P ++ beLaw n 8 ++ S).getD (P.length + 0) 0 = n / 72057594037927936 % 256 := by rw [mid_get (by show 0 < 8; decide)]; rfl
    have h1' : n < 4611686018427387904 := h1
    show (P ++ beLaw n 8 ++ S).getD (P.length + 0) 0 < 64
    rw [g0]
    omega
  have hlen : ¬ (((P ++ beLaw n size.toNat ++ S).length - P.length : Nat) : Int) < size := by
    simp only [List.length_append, hl]
    omega
  rw [rn_g hs hlen hlow, hl]
  have hv : numAtLaw size.toNat (P ++ beLaw n size.toNat ++ S) P.length = n := by
    rcases hs with rfl | rfl | rfl | rfl
    · exact be_back1 h0 h1
    · exact be_back2 h0 h1
    · exact be_back4 h0 h1
    · exact be_back8 h0 h1
  rw [hv]
theorem rl_back {P S : List Int} {n : Int} (h0 : 0 ≤ n) (h1 : n < 1073741824) : rlP (P ++ lenLaw n ++ S) P.length 0 = (n, P.length + (lenLaw n).length, 0) := by
  by_cases ha : n < 64
  · rw [(len_a h0 ha).1]
    have g0 : (P ++ [n / 1 % 256] ++ S).getD (P.length + 0) 0 = n / 1 % 256 := mid_get (by show 0 < 1; decide)
    rw [Nat.add_zero] at g0
    have hl : (P ++ [n / 1 % 256] ++ S).length = P.length + 1 + S.length := by simp; omega
    have hv : iand (numAtLaw 1 (P ++ [n / 1 % 256] ++ S) P.length) 63 = n := by
      have e : numAtLaw 1 (P ++ [n / 1 % 256] ++ S) P.length = n := by
        show beN 1 _ _ = n
        unfold beN beN
        rw [Nat.add_zero, g0]
        omega
      rw [e]
      have := iand_mod 6 h0
      rw [show ((2 : Int) ^ 6 - 1) = 63 by decide, show ((2 : Int) ^ 6) = 64 by decide] at this
      rw [this]
      omega
    rw [rl_0 (by rw [hl]; omega) (by rw [g0]; omega), rlT_g (by rw [hl]; omega) (by rw [hv]; omega), hv]
    rfl
  by_cases hb : n < 16384
  · rw [(len_b (by omega) hb).1]
    have g0 : (P ++ [(n + 16384) / 256 % 256, (n + 16384) / 1 % 256] ++ S).getD (P.length + 0) 0 = (n + 16384) / 256 % 256 := mid_get (by show 0 < 2; decide)
    have g1 : (P ++ [(n + 16384) / 256 % 256, (n + 16384) / 1 % 256] ++ S).getD (P.length + 1) 0 = (n + 16384) / 1 % 256 := mid_get (by show 1 < 2; decide)
    rw [Nat.add_zero] at g0
    have hl : (P ++ [(n + 16384) / 256 % 256, (n + 16384) / 1 % 256] ++ S).length = P.length + 2 + S.length := by simp; omega
    have hv : iand (numAtLaw 2 (P ++ [(n + 16384) / 256 % 256, (n + 16384) / 1 % 256] ++ S) P.length) 16383 = n := by
      have e : numAtLaw 2 (P ++ [(n + 16384) / 256 % 256, (n + 16384) / 1 % 256] ++ S) P.length = n + 16384 := by
        show beN 2 _ _ = n + 16384
        unfold beN beN beN
        rw [Nat.add_zero, g0, g1]
        omega
      rw [e]
      have := iand_mod (a := n + 16384) 14 (by omega)
      rw [show ((2 : Int) ^ 14 - 1) = 16383 by decide, show ((2 : Int) ^ 14) = 16384 by decide] at this
      rw [this]
      omega
    rw [rl_1 (by rw [hl]; omega) (by rw [g0]; omega), rlT_g (by rw [hl]; omega) (by rw [hv]; omega), hv]
    rfl
  · rw [(len_c (by omega) h1).1]
    have g0 : (P ++ [(n + 2147483648) / 16777216 % 256, (n + 2147483648) / 65536 % 256, (n + 2147483648) / 256 % 256, (n + 2147483648) / 1 % 256] ++ S).getD (P.length + 0) 0 = (n + 2147483648) / 16777216 % 256 := mid_get (by show 0 < 4; decide)
    have g1 : (P ++ [(n + 2147483648) / 16777216 % 256, (n + 2147483648) / 65536 % 256, (n + 2147483648) / 256 % 256, (n + 2147483648) / 1 % 256] ++ S).getD (P.length + 1) 0 = (n + 2147483648) / 65536 % 256 := mid_get (by show 1 < 4; decide)
    have g2 : (P ++ [(n + 2147483648) / 16777216 % 256, (n + 2147483648) / 65536 % 256, (n + 2147483648) / 256 % 256, (n + 2147483648) / 1 % 256] ++ S).getD (P.length + 2) 0 = (n + 2147483648) / 256 % 256 := mid_get (by show 2 < 4; decide)
    have g3 : (P ++ [(n + 2147483648) / 16777216 % 256, (n + 2147483648) / 65536 % 256, (n + 2147483648) / 256 % 256, (n + 2147483648) / 1 % 256] ++ S).getD (P.length + 3) 0 = (n + 2147483648) / 1 % 256 := mid_get (by show 3 < 4; decide)
    rw [Nat.add_zero] at g0
    have hl : (P ++ [(n + 2147483648) / 16777216 % 256, (n + 2147483648) / 65536 % 256, (n + 2147483648) / 256 % 256, (n + 2147483648) / 1 % 256] ++ S).length = P.length + 4 + S.length := by simp; omega
    have hv : iand (numAtLaw 4 (P ++ [(n + 2147483648) / 16777216 % 256, (n + 2147483648) / 65536 % 256, (n + 2147483648) / 256 % 256, (n + 2147483648) / 1 % 256] ++ S) P.length) 1073741823 = n := by
      have e : numAtLaw 4 (P ++ [(n + 2147483648) / 16777216 % 256, (n + 2147483648) / 65536 % 256, (n + 2147483648) / 256 % 256, (n + 2147483648) / 1 % 256] ++ S) P.length = n + 2147483648 := by
        show beN 4 _ _ = n + 2147483648
        unfold beN beN beN beN beN
        rw [Nat.add_zero, g0, g1, g2, g3]
        omega
      rw [e]
      have := iand_mod (a := n + 2147483648) 30 (by omega)
      rw [show ((2 : Int) ^ 30 - 1) = 1073741823 by decide, show ((2 : Int) ^ 30) = 1073741824 by decide] at this
      rw [this]
      omega
    rw [rl_2 (by rw [hl]; omega) (by rw [g0]; omega), rlT_g (by rw [hl]; omega) (by rw [hv]; omega), hv]
    rfl
end Go.Abs

set_option linter.unusedVariables false
set_option linter.unusedSimpArgs false
set_option maxRecDepth 100000
set_option maxHeartbeats 4000000
namespace Go.Abs
open Go.Proofs Go.Proofs.Try
end Go.Abs

set_option linter.unusedVariables false
set_option linter.unusedSimpArgs false
set_option maxRecDepth 100000
set_option maxHeartbeats 4000000
namespace Go.Abs
open Go.Proofs Go.Proofs.Try
end Go.Abs

set_option linter.unusedVariables false
set_option linter.unusedSimpArgs false
set_option maxRecDepth 100000
set_option maxHeartbeats 4000000
namespace Go.Abs
open Go.Proofs Go.Proofs.Try
end Go.Abs

set_option linter.unusedVariables false
set_option linter.unusedSimpArgs false
set_option maxRecDepth 100000
set_option maxHeartbeats 4000000
namespace Go.Abs
open Go.Proofs Go.Proofs.Try
end Go.Abs

set_option linter.unusedVariables false
set_option linter.unusedSimpArgs false
set_option maxRecDepth 100000
namespace Go.Abs
open Go.Proofs Go.Proofs.Try
end Go.Abs

set_option linter.unusedVariables false
set_option linter.unusedSimpArgs false
set_option maxRecDepth 100000
set_option maxHeartbeats 4000000
namespace Go.Abs
open Go.Proofs Go.Proofs.Try
end Go.Abs

set_option linter.unusedVariables false
set_option linter.unusedSimpArgs false
set_option maxRecDepth 100000
set_option maxHeartbeats 4000000
namespace Go.Abs
open Go.Proofs Go.Proofs.Try
end Go.Abs

set_option linter.unusedVariables false
set_option linter.unusedSimpArgs false
set_option maxRecDepth 100000
set_option maxHeartbeats 4000000
namespace Go.Abs
open Go.Proofs Go.Proofs.Try
end Go.Abs

set_option linter.unusedVariables false
set_option linter.unusedSimpArgs false
set_option maxRecDepth 100000
set_option maxHeartbeats 4000000
namespace Go.Abs
open Go.Proofs Go.Proofs.Try
/-! ### Vectors: one behind the other -/
def vec1Law (bs : List Int) : List Int := lenLaw bs.length ++ bs
def FitZLaw (Y : List (List Int)) : Prop := ∀ b ∈ Y, b.length ≤ 65536
instance (Y : List (List Int)) : Decidable (FitZLaw Y) := by unfold FitZLaw; exact inferInstance
end Go.Abs

set_option linter.unusedVariables false
set_option linter.unusedSimpArgs false
set_option maxRecDepth 100000
set_option maxHeartbeats 4000000
namespace Go.Abs
open Go.Proofs Go.Proofs.Try
end Go.Abs

set_option linter.unusedVariables false
set_option linter.unusedSimpArgs false
set_option maxRecDepth 100000
set_option maxHeartbeats 4000000
namespace Go.Abs
open Go.Proofs Go.Proofs.Try
end Go.Abs

set_option linter.unusedVariables false
set_option linter.unusedSimpArgs false
set_option maxRecDepth 100000
set_option maxHeartbeats 4000000
namespace Go.Abs
open Go.Proofs Go.Proofs.Try
end Go.Abs

set_option linter.unusedVariables false
set_option linter.unusedSimpArgs false
set_option maxRecDepth 100000
set_option maxHeartbeats 4000000
namespace Go.Abs
open Go.Proofs Go.Proofs.Try
end Go.Abs

set_option linter.unusedVariables false
set_option linter.unusedSimpArgs false
set_option maxRecDepth 100000
set_option maxHeartbeats 4000000
namespace Go.Abs
open Go.Proofs Go.Proofs.Try
end Go.Abs

set_option linter.unusedVariables false
set_option linter.unusedSimpArgs false
set_option maxRecDepth 100000
set_option maxHeartbeats 4000000
namespace Go.Abs
open Go.Proofs Go.Proofs.Try
end Go.Abs

set_option linter.unusedVariables false
set_option linter.unusedSimpArgs false
set_option maxRecDepth 100000
set_option maxHeartbeats 4000000
namespace Go.Abs
open Go.Proofs Go.Proofs.Try
end Go.Abs

set_option linter.unusedVariables false
set_option linter.unusedSimpArgs false
set_option maxRecDepth 100000
set_option maxHeartbeats 4000000
namespace Go.Abs
open Go.Proofs Go.Proofs.Try
/-! ### vectors: what is read is what was written -/
theorem drop_get {B : List Int} {off : Nat} (h : off < B.length) : B.drop off = B.getD off 0 :: B.drop (off + 1) := by
  rw [List.drop_eq_getElem_cons h, List.getD_eq_getElem?_getD, List.getElem?_eq_getElem h]; rfl
theorem rl_canon {B : List Int} {off : Nat} (hb : ByLaw B) (he : rlELaw B off 0 = 0) :
    0 ≤ rlVLaw B off 0 ∧ off < rlOLaw B off 0 ∧ rlOLaw B off 0 ≤ B.length ∧ B.drop off = lenLaw (rlVLaw B off 0) ++ B.drop (rlOLaw B off 0) := by
  unfold rlELaw at he
  unfold rlVLaw rlOLaw
  by_cases hz : B.length - off = 0
  · rw [rl_z hz] at he; cases he
  have h0 := hb off
  have hlt : off < B.length := by omega
  have d0 := drop_get hlt
  by_cases t3 : B.getD off 0 / 64 = 3
  · rw [rl_f hz t3] at he; cases he
  by_cases t0 : B.getD off 0 / 64 = 0
  · rw [rl_0 hz t0] at he ⊢
    have hv : iand (numAtLaw 1 B off) 63 = B.getD off 0 := by
      have e : numAtLaw 1 B off = B.getD off 0 := by show beN 1 _ _ = _; unfold beN beN; rw [Nat.add_zero]; omega
      rw [e]
      have := iand_mod (a := B.getD off 0) 6 h0.1
      rw [show ((2 : Int) ^ 6 - 1) = 63 by decide, show ((2 : Int) ^ 6) = 64 by decide] at this
      rw [this]; omega
    rw [rlT_g (by omega) (by rw [hv]; omega), hv]
    simp only
    refine ⟨h0.1, by omega, by omega, ?_⟩
    rw [(len_a h0.1 (by omega)).1, d0]
    have : B.getD off 0 / 1 % 256 = B.getD off 0 := by omega
    rw [this]; rfl
  by_cases t1 : B.getD off 0 / 64 = 1
  · rw [rl_1 hz t1] at he ⊢
    by_cases hs : B.length - off < 2
    · rw [rlT_s hs] at he; cases he
    have h1 := hb (off + 1)
    have d1 := drop_get (B := B) (off := off + 1) (by omega)
    have hv : iand (numAtLaw 2 B off) 16383 = B.getD off 0 * 256 + B.getD (off + 1) 0 - 16384 := by
      have e : numAtLaw 2 B off = B.getD off 0 * 256 + B.getD (off + 1) 0 := by show beN 2 _ _ = _; unfold beN beN beN; rw [Nat.add_zero]; omega
      rw [e]
      have := iand_mod (a := B.getD off 0 * 256 + B.getD (off + 1) 0) 14 (by omega)
      rw [show ((2 : Int) ^ 14 - 1) = 16383 by decide, show ((2 : Int) ^ 14) = 16384 by decide] at this
      rw [this]; omega
    by_cases hl : iand (numAtLaw 2 B off) 16383 < 64
    · rw [rlT_b hs hl] at he; cases he
    rw [rlT_g hs hl]
    simp only
    rw [hv] at hl ⊢
    refine ⟨by omega, by omega, by omega, ?_⟩
    rw [(len_b (by omega) (by omega)).1, d0, d1]
    have e1 : (B.getD off 0 * 256 + B.getD (off + 1) 0 - 16384 + 16384) / 256 % 256 = B.getD off 0 := by omega
    have e2 : (B.getD off 0 * 256 + B.getD (off + 1) 0 - 16384 + 16384) / 1 % 256 = B.getD (off + 1) 0 := by omega
    rw [e1, e2]; rfl
  · have t2 : B.getD off 0 / 64 = 2 := by omega
    rw [rl_2 hz t2] at he ⊢
    by_cases hs : B.length - off < 4
    · rw [rlT_s hs] at he; cases he
    have h1 := hb (off + 1)
    have h2 := hb (off + 2)
    have h3 := hb (off + 3)
    have d1 := drop_get (B := B) (off := off + 1) (by omega)
    have d2 := drop_get (B := B) (off := off + 2) (by omega)
    have d3 := drop_get (B := B) (off := off + 3) (by omega)
    have e : numAtLaw 4 B off = ((B.getD off 0 * 256 + B.getD (off + 1) 0) * 256 + B.getD (off + 2) 0) * 256 + B.getD (off + 3) 0 := by show beN 4 _ _ = _; unfold beN beN beN beN beN; rw [Nat.add_zero]; omega
    have hv : iand (numAtLaw 4 B off) 1073741823 = ((B.getD off 0 * 256 + B.getD (off + 1) 0) * 256 + B.getD (off + 2) 0) * 256 + B.getD (off + 3) 0 - 2147483648 := by
      rw [e]
      have := iand_mod (a := ((B.getD off 0 * 256 + B.getD (off + 1) 0) * 256 + B.getD (off + 2) 0) * 256 + B.getD (off + 3) 0) 30 (by omega)
      rw [show ((2 : Int) ^ 30 - 1) = 1073741823 by decide, show ((2 : Int) ^ 30) = 1073741824 by decide] at this
      rw [this]; omega
    by_cases hl : iand (numAtLaw 4 B off) 1073741823 < 16384
    · rw [rlT_b hs hl] at he; cases he
    rw [rlT_g hs hl]
    simp only
    rw [hv] at hl ⊢
    refine ⟨by omega, by omega, by omega, ?_⟩
    rw [(len_c (by omega) (by omega)).1, d0, d1, d2, d3]
    generalize B.getD off 0 = b0 at *
    generalize B.getD (off + 1) 0 = b1 at *
    generalize B.getD (off + 2) 0 = b2 at *
    generalize B.getD (off + 3) 0 = b3 at *
    have e1 : (((b0 * 256 + b1) * 256 + b2) * 256 + b3 - 2147483648 + 2147483648) / 16777216 % 256 = b0 := by omega
    have e2 : (((b0 * 256 + b1) * 256 + b2) * 256 + b3 - 2147483648 + 2147483648) / 65536 % 256 = b1 := by omega
    have e3 : (((b0 * 256 + b1) * 256 + b2) * 256 + b3 - 2147483648 + 2147483648) / 256 % 256 = b2 := by omega
    have e4 : (((b0 * 256 + b1) * 256 + b2) * 256 + b3 - 2147483648 + 2147483648) / 1 % 256 = b3 := by omega
    rw [e1, e2, e3, e4]; rfl
theorem rv_canon {C : List Int} {off : Nat} (hb : ByLaw C) (he : rvELaw C off 0 = 0) :
    (rvVLaw C off 0).length ≤ 65536 ∧ off < rvOLaw C off 0 ∧ rvOLaw C off 0 ≤ C.length ∧ C.drop off = vec1Law (rvVLaw C off 0) ++ C.drop (rvOLaw C off 0) := by
  by_cases h2 : rtELaw C (rlOLaw C off 0) (rvE1 C off) (rlVLaw C off 0) ≠ 0
  · unfold rvELaw at he
    rw [rv_w rfl h2] at he
    exact absurd he h2
  have h2 : rtELaw C (rlOLaw C off 0) (rvE1 C off) (rlVLaw C off 0) = 0 := Classical.not_not.1 h2
  unfold rvVLaw rvOLaw
  rw [rv_g rfl h2]
  have e1 : rvE1 C off = 0 := by
    by_cases h : rvE1 C off = 0
    · exact h
    · rw [rtE_e _ h] at h2; exact h2
  have hE : rlELaw C off 0 = 0 ∧ rlVLaw C off 0 ≤ 65536 := by
    unfold rvE1 at e1
    split at e1
    · cases e1
    · rename_i hn
      refine ⟨e1, ?_⟩
      rw [e1] at hn
      omega
  obtain ⟨hE, hV⟩ := hE
  obtain ⟨c1, c2, c3, c4⟩ := rl_canon hb hE
  rw [e1] at h2 ⊢
  obtain ⟨m, hm⟩ := Int.eq_ofNat_of_zero_le c1
  rw [hm] at h2 hV c4 ⊢
  by_cases h3 : ((C.length - rlOLaw C off 0 : Nat) : Int) < m
  · unfold rtELaw at h2
    rw [rt_s (by omega) h3] at h2; cases h2
  unfold rtVLaw rtOLaw
  rw [rt_g h3]
  simp only
  have hl : (subLaw C (rlOLaw C off 0) m).length = m := by unfold subLaw; rw [List.length_take, List.length_drop]; omega
  refine ⟨by rw [hl]; omega, by omega, by omega, ?_⟩
  unfold vec1Law
  rw [hl, c4, List.append_assoc]
  congr 1
  unfold subLaw
  rw [← List.drop_drop, List.take_append_drop]
theorem rv_at {P row S : List Int} (h : row.length ≤ 65536) : rvP (P ++ (vec1Law row ++ S)) P.length 0 = (row, P.length + (vec1Law row).length, 0) := by
  have hr := rl_back (P := P) (S := row ++ S) (n := row.length) (by omega) (by omega)
  rw [List.append_assoc] at hr
  have hc : P ++ (vec1Law row ++ S) = P ++ (lenLaw row.length ++ (row ++ S)) := by unfold vec1Law; rw [List.append_assoc]
  rw [hc]
  generalize hC : P ++ (lenLaw row.length ++ (row ++ S)) = C at hr ⊢
  have hV : rlVLaw C P.length 0 = row.length := by unfold rlVLaw; rw [hr]
  have hO : rlOLaw C P.length 0 = P.length + (lenLaw row.length).length := by unfold rlOLaw; rw [hr]
  have hE : rlELaw C P.length 0 = 0 := by unfold rlELaw; rw [hr]
  have e1 : rvE1 C P.length = 0 := by unfold rvE1; rw [if_neg (by rw [hV]; omega), hE]
  have hlen : C.length = P.length + (lenLaw row.length).length + row.length + S.length := by rw [← hC]; simp; omega
  have hrt : rtP C (P.length + (lenLaw row.length).length) 0 (row.length : Int) = (row, P.length + (lenLaw row.length).length + row.length, 0) := by
    rw [rt_g (by rw [hlen]; omega)]
    have : subLaw C (P.length + (lenLaw row.length).length) row.length = row := by
      unfold subLaw
      rw [← hC, ← List.append_assoc, List.drop_left' (by simp), List.take_left' rfl]
    rw [this]
  have h2 : rtELaw C (rlOLaw C P.length 0) 0 (rlVLaw C P.length 0) = 0 := by unfold rtELaw; rw [hO, hV, hrt]
  rw [rv_g e1 h2]
  unfold rtVLaw rtOLaw rtELaw
  rw [hO, hV, hrt]
  simp only [vec1Law, List.length_append, Nat.add_assoc]
end Go.Abs
