/- What functions of the given program come to, by the abstract machine: texts of a proof. -/
import Derived.Test.YtlnflmjgnmljeaaAbs2
import Derived.Test.YtlnflmjgnmljeaaProg
import Derived.KernelRfl
set_option linter.unusedVariables false
set_option linter.unusedSimpArgs false
namespace Go.Abs
/-! ### products of blocks, as numbers below 2^128 -/
def dN (x : Nat) : Nat := (x >>> 1) ^^^ (if x.testBit 0 then 225 <<< 120 else 0)
def apN (a : Nat) : Nat → Nat
  | 0 => a
  | i + 1 => dN (apN a i)
def accN (a b : Nat) : Nat → Nat
  | 0 => 0
  | i + 1 => accN a b i ^^^ (if b.testBit (127 - i) then apN a i else 0)
def mulN (a b : Nat) : Nat := accN a b 128
theorem dN_lt {x : Nat} (h : x < 2 ^ 128) : dN x < 2 ^ 128 := by
  unfold dN
  refine Nat.xor_lt_two_pow ?_ ?_
  · rw [Nat.shiftRight_eq_div_pow]; omega
  · split <;> decide
theorem apN_lt {a : Nat} (h : a < 2 ^ 128) : ∀ i, apN a i < 2 ^ 128
  | 0 => h
  | i + 1 => dN_lt (apN_lt h i)
theorem accN_lt {a : Nat} (b : Nat) (h : a < 2 ^ 128) : ∀ i, accN a b i < 2 ^ 128
  | 0 => Nat.two_pow_pos 128
  | i + 1 => by
    refine Nat.xor_lt_two_pow (accN_lt b h i) ?_
    split
    · exact apN_lt h i
    · decide
theorem mulN_lt {a : Nat} (b : Nat) (h : a < 2 ^ 128) : mulN a b < 2 ^ 128 := accN_lt b h 128
end Go.Abs

set_option linter.unusedVariables false
namespace Go.Abs
def tysA : List (Nat × Ty) := [
(1, ⟨.func, 1, 8, .nilFunc⟩),
(2, ⟨(.int .i64), 1, 8, (.int .i64 0)⟩),
(3, ⟨(.int .i64), 1, 8, (.int .i64 0)⟩),
(4, ⟨.bool, 1, 1, (.bool false)⟩),
(5, ⟨(.int .u8), 1, 1, (.int .u8 0)⟩),
(6, ⟨(.int .u8), 1, 1, (.int .u8 0)⟩),
(7, ⟨(.struct [(0, 2), (1, 3), (2, 4), (3, 6)]), 4, 24, (.agg [(.int .i64 0), (.int .i64 0), (.bool false), (.int .u8 0)])⟩),
(8, ⟨(.struct [(0, 2), (1, 3), (2, 4), (3, 6)]), 4, 24, (.agg [(.int .i64 0), (.int .i64 0), (.bool false), (.int .u8 0)])⟩),
(9, ⟨.str, 1, 16, (.str [])⟩),
(10, ⟨.str, 1, 16, (.str [])⟩),
(11, ⟨.str, 1, 16, (.str [])⟩),
(12, ⟨(.int .u64), 1, 8, (.int .u64 0)⟩),
(13, ⟨(.struct [(0, 9), (1, 12)]), 2, 24, (.agg [(.str []), (.int .u64 0)])⟩),
(14, ⟨(.struct [(0, 9), (1, 12)]), 2, 24, (.agg [(.str []), (.int .u64 0)])⟩),
(15, ⟨(.ptr 91), 1, 8, .nilPtr⟩),
(16, ⟨(.ptr 94), 1, 8, .nilPtr⟩),
(17, ⟨(.ptr 104), 1, 8, .nilPtr⟩),
(18, ⟨(.struct [(0, 17)]), 1, 8, (.agg [.nilPtr])⟩),
(19, ⟨(.struct [(0, 17)]), 1, 8, (.agg [.nilPtr])⟩),
(20, ⟨.iface, 1, 16, .nilIface⟩),
(21, ⟨(.int .i32), 1, 4, (.int .i32 0)⟩),
(22, ⟨.func, 1, 8, .nilFunc⟩),
(23, ⟨.func, 1, 8, .nilFunc⟩),
(24, ⟨.func, 1, 8, .nilFunc⟩),
(25, ⟨(.slice 5), 1, 24, .nilSlice⟩),
(26, ⟨.func, 1, 8, .nilFunc⟩),
(27, ⟨(.int .i64), 1, 8, (.int .i64 0)⟩),
(29, ⟨.func, 1, 8, .nilFunc⟩),
(31, ⟨.func, 1, 8, .nilFunc⟩),
(32, ⟨.func, 1, 8, .nilFunc⟩),
(33, ⟨.func, 1, 8, .nilFunc⟩),
(34, ⟨.func, 1, 8, .nilFunc⟩),
(35, ⟨.func, 1, 8, .nilFunc⟩),
(36, ⟨.func, 1, 8, .nilFunc⟩),
(37, ⟨.func, 1, 8, .nilFunc⟩),
(38, ⟨(.struct [(0, 25), (1, 25), (2, 25), (3, 25)]), 4, 96, (.agg [.nilSlice, .nilSlice, .nilSlice, .nilSlice])⟩),
(39, ⟨(.struct [(0, 25), (1, 25), (2, 25), (3, 25)]), 4, 96, (.agg [.nilSlice, .nilSlice, .nilSlice, .nilSlice])⟩),
(40, ⟨.func, 1, 8, .nilFunc⟩),
(41, ⟨.func, 1, 8, .nilFunc⟩),
(42, ⟨.func, 1, 8, .nilFunc⟩),
(43, ⟨.func, 1, 8, .nilFunc⟩),
(44, ⟨.func, 1, 8, .nilFunc⟩),
(45, ⟨.func, 1, 8, .nilFunc⟩),
(46, ⟨.func, 1, 8, .nilFunc⟩),
(47, ⟨(.array 16 5), 16, 16, (.ints .u8 [0, 0, 0, 0, 0, 0, 0, 0, 0, 0, 0, 0, 0, 0, 0, 0])⟩),
(48, ⟨(.array 16 5), 16, 16, (.ints .u8 [0, 0, 0, 0, 0, 0, 0, 0, 0, 0, 0, 0, 0, 0, 0, 0])⟩),
(49, ⟨(.array 11 48), 176, 176, (.ints .u8 [0, 0, 0, 0, 0, 0, 0, 0, 0, 0, 0, 0, 0, 0, 0, 0, 0, 0, 0, 0, 0, 0, 0, 0, 0, 0, 0, 0, 0, 0, 0, 0, 0, 0, 0, 0, 0, 0, 0, 0, 0, 0, 0, 0, 0, 0, 0, 0, 0, 0, 0, 0, 0, 0, 0, 0, 0, 0, 0, 0, 0, 0, 0, 0, 0, 0, 0, 0, 0, 0, 0, 0, 0, 0, 0, 0, 0, 0, 0, 0, 0, 0, 0, 0, 0, 0, 0, 0, 0, 0, 0, 0, 0, 0, 0, 0, 0, 0, 0, 0, 0, 0, 0, 0, 0, 0, 0, 0, 0, 0, 0, 0, 0, 0, 0, 0, 0, 0, 0, 0, 0, 0, 0, 0, 0, 0, 0, 0, 0, 0, 0, 0, 0, 0, 0, 0, 0, 0, 0, 0, 0, 0, 0, 0, 0, 0, 0, 0, 0, 0, 0, 0, 0, 0, 0, 0, 0, 0, 0, 0, 0, 0, 0, 0, 0, 0, 0, 0, 0, 0, 0, 0, 0, 0, 0, 0])⟩),
(50, ⟨(.ptr 72), 1, 8, .nilPtr⟩),
(51, ⟨.func, 1, 8, .nilFunc⟩),
(52, ⟨.func, 1, 8, .nilFunc⟩),
(53, ⟨.func, 1, 8, .nilFunc⟩),
(54, ⟨.func, 1, 8, .nilFunc⟩),
(55, ⟨.func, 1, 8, .nilFunc⟩),
(56, ⟨.func, 1, 8, .nilFunc⟩),
(57, ⟨(.slice 55), 1, 24, .nilSlice⟩),
(58, ⟨.func, 1, 8, .nilFunc⟩),
(59, ⟨(.struct [(0, 25), (1, 25)]), 2, 48, (.agg [.nilSlice, .nilSlice])⟩),
(60, ⟨(.struct [(0, 25), (1, 25)]), 2, 48, (.agg [.nilSlice, .nilSlice])⟩),
(61, ⟨.func, 1, 8, .nilFunc⟩),
(62, ⟨.func, 1, 8, .nilFunc⟩),
(63, ⟨(.int .u64), 1, 8, (.int .u64 0)⟩),
(64, ⟨(.array 2 63), 2, 16, (.ints .u64 [0, 0])⟩),
(65, ⟨(.array 2 63), 2, 16, (.ints .u64 [0, 0])⟩),
(66, ⟨.func, 1, 8, .nilFunc⟩),
(67, ⟨.func, 1, 8, .nilFunc⟩),
(68, ⟨.func, 1, 8, .nilFunc⟩),
(69, ⟨(.int .u64), 1, 8, (.int .u64 0)⟩),
(70, ⟨(.array 256 5), 256, 256, (.ints .u8 [0, 0, 0, 0, 0, 0, 0, 0, 0, 0, 0, 0, 0, 0, 0, 0, 0, 0, 0, 0, 0, 0, 0, 0, 0, 0, 0, 0, 0, 0, 0, 0, 0, 0, 0, 0, 0, 0, 0, 0, 0, 0, 0, 0, 0, 0, 0, 0, 0, 0, 0, 0, 0, 0, 0, 0, 0, 0, 0, 0, 0, 0, 0, 0, 0, 0, 0, 0, 0, 0, 0, 0, 0, 0, 0, 0, 0, 0, 0, 0, 0, 0, 0, 0, 0, 0, 0, 0, 0, 0, 0, 0, 0, 0, 0, 0, 0, 0, 0, 0, 0, 0, 0, 0, 0, 0, 0, 0, 0, 0, 0, 0, 0, 0, 0, 0, 0, 0, 0, 0, 0, 0, 0, 0, 0, 0, 0, 0, 0, 0, 0, 0, 0, 0, 0, 0, 0, 0, 0, 0, 0, 0, 0, 0, 0, 0, 0, 0, 0, 0, 0, 0, 0, 0, 0, 0, 0, 0, 0, 0, 0, 0, 0, 0, 0, 0, 0, 0, 0, 0, 0, 0, 0, 0, 0, 0, 0, 0, 0, 0, 0, 0, 0, 0, 0, 0, 0, 0, 0, 0, 0, 0, 0, 0, 0, 0, 0, 0, 0, 0, 0, 0, 0, 0, 0, 0, 0, 0, 0, 0, 0, 0, 0, 0, 0, 0, 0, 0, 0, 0, 0, 0, 0, 0, 0, 0, 0, 0, 0, 0, 0, 0, 0, 0, 0, 0, 0, 0, 0, 0, 0, 0, 0, 0, 0, 0, 0, 0, 0, 0, 0, 0, 0, 0, 0, 0])⟩),
(71, ⟨(.struct [(0, 70), (256, 70)]), 512, 512, (.ints .u8 [0, 0, 0, 0, 0, 0, 0, 0, 0, 0, 0, 0, 0, 0, 0, 0, 0, 0, 0, 0, 0, 0, 0, 0, 0, 0, 0, 0, 0, 0, 0, 0, 0, 0, 0, 0, 0, 0, 0, 0, 0, 0, 0, 0, 0, 0, 0, 0, 0, 0, 0, 0, 0, 0, 0, 0, 0, 0, 0, 0, 0, 0, 0, 0, 0, 0, 0, 0, 0, 0, 0, 0, 0, 0, 0, 0, 0, 0, 0, 0, 0, 0, 0, 0, 0, 0, 0, 0, 0, 0, 0, 0, 0, 0, 0, 0, 0, 0, 0, 0, 0, 0, 0, 0, 0, 0, 0, 0, 0, 0, 0, 0, 0, 0, 0, 0, 0, 0, 0, 0, 0, 0, 0, 0, 0, 0, 0, 0, 0, 0, 0, 0, 0, 0, 0, 0, 0, 0, 0, 0, 0, 0, 0, 0, 0, 0, 0, 0, 0, 0, 0, 0, 0, 0, 0, 0, 0, 0, 0, 0, 0, 0, 0, 0, 0, 0, 0, 0, 0, 0, 0, 0, 0, 0, 0, 0, 0, 0, 0, 0, 0, 0, 0, 0, 0, 0, 0, 0, 0, 0, 0, 0, 0, 0, 0, 0, 0, 0, 0, 0, 0, 0, 0, 0, 0, 0, 0, 0, 0, 0, 0, 0, 0, 0, 0, 0, 0, 0, 0, 0, 0, 0, 0, 0, 0, 0, 0, 0, 0, 0, 0, 0, 0, 0, 0, 0, 0, 0, 0, 0, 0, 0, 0, 0, 0, 0, 0, 0, 0, 0, 0, 0, 0, 0, 0, 0, 0, 0, 0, 0, 0, 0, 0, 0, 0, 0, 0, 0, 0, 0, 0, 0, 0, 0, 0, 0, 0, 0, 0, 0, 0, 0, 0, 0, 0, 0, 0, 0, 0, 0, 0, 0, 0, 0, 0, 0, 0, 0, 0, 0, 0, 0, 0, 0, 0, 0, 0, 0, 0, 0, 0, 0, 0, 0, 0, 0, 0, 0, 0, 0, 0, 0, 0, 0, 0, 0, 0, 0, 0, 0, 0, 0, 0, 0, 0, 0, 0, 0, 0, 0, 0, 0, 0, 0, 0, 0, 0, 0, 0, 0, 0, 0, 0, 0, 0, 0, 0, 0, 0, 0, 0, 0, 0, 0, 0, 0, 0, 0, 0, 0, 0, 0, 0, 0, 0, 0, 0, 0, 0, 0, 0, 0, 0, 0, 0, 0, 0, 0, 0, 0, 0, 0, 0, 0, 0, 0, 0, 0, 0, 0, 0, 0, 0, 0, 0, 0, 0, 0, 0, 0, 0, 0, 0, 0, 0, 0, 0, 0, 0, 0, 0, 0, 0, 0, 0, 0, 0, 0, 0, 0, 0, 0, 0, 0, 0, 0, 0, 0, 0, 0, 0, 0, 0, 0, 0, 0, 0, 0, 0, 0, 0, 0, 0, 0, 0, 0, 0, 0, 0, 0, 0, 0, 0, 0, 0, 0, 0, 0, 0, 0, 0, 0, 0, 0, 0, 0, 0, 0, 0, 0, 0, 0, 0, 0, 0, 0, 0, 0, 0, 0, 0, 0, 0, 0, 0, 0, 0, 0, 0, 0, 0, 0, 0, 0, 0, 0, 0, 0, 0, 0, 0, 0])⟩),
(72, ⟨(.struct [(0, 70), (256, 70)]), 512, 512, (.ints .u8 [0, 0, 0, 0, 0, 0, 0, 0, 0, 0, 0, 0, 0, 0, 0, 0, 0, 0, 0, 0, 0, 0, 0, 0, 0, 0, 0, 0, 0, 0, 0, 0, 0, 0, 0, 0, 0, 0, 0, 0, 0, 0, 0, 0, 0, 0, 0, 0, 0, 0, 0, 0, 0, 0, 0, 0, 0, 0, 0, 0, 0, 0, 0, 0, 0, 0, 0, 0, 0, 0, 0, 0, 0, 0, 0, 0, 0, 0, 0, 0, 0, 0, 0, 0, 0, 0, 0, 0, 0, 0, 0, 0, 0, 0, 0, 0, 0, 0, 0, 0, 0, 0, 0, 0, 0, 0, 0, 0, 0, 0, 0, 0, 0, 0, 0, 0, 0, 0, 0, 0, 0, 0, 0, 0, 0, 0, 0, 0, 0, 0, 0, 0, 0, 0, 0, 0, 0, 0, 0, 0, 0, 0, 0, 0, 0, 0, 0, 0, 0, 0, 0, 0, 0, 0, 0, 0, 0, 0, 0, 0, 0, 0, 0, 0, 0, 0, 0, 0, 0, 0, 0, 0, 0, 0, 0, 0, 0, 0, 0, 0, 0, 0, 0, 0, 0, 0, 0, 0, 0, 0, 0, 0, 0, 0, 0, 0, 0, 0, 0, 0, 0, 0, 0, 0, 0, 0, 0, 0, 0, 0, 0, 0, 0, 0, 0, 0, 0, 0, 0, 0, 0, 0, 0, 0, 0, 0, 0, 0, 0, 0, 0, 0, 0, 0, 0, 0, 0, 0, 0, 0, 0, 0, 0, 0, 0, 0, 0, 0, 0, 0, 0, 0, 0, 0, 0, 0, 0, 0, 0, 0, 0, 0, 0, 0, 0, 0, 0, 0, 0, 0, 0, 0, 0, 0, 0, 0, 0, 0, 0, 0, 0, 0, 0, 0, 0, 0, 0, 0, 0, 0, 0, 0, 0, 0, 0, 0, 0, 0, 0, 0, 0, 0, 0, 0, 0, 0, 0, 0, 0, 0, 0, 0, 0, 0, 0, 0, 0, 0, 0, 0, 0, 0, 0, 0, 0, 0, 0, 0, 0, 0, 0, 0, 0, 0, 0, 0, 0, 0, 0, 0, 0, 0, 0, 0, 0, 0, 0, 0, 0, 0, 0, 0, 0, 0, 0, 0, 0, 0, 0, 0, 0, 0, 0, 0, 0, 0, 0, 0, 0, 0, 0, 0, 0, 0, 0, 0, 0, 0, 0, 0, 0, 0, 0, 0, 0, 0, 0, 0, 0, 0, 0, 0, 0, 0, 0, 0, 0, 0, 0, 0, 0, 0, 0, 0, 0, 0, 0, 0, 0, 0, 0, 0, 0, 0, 0, 0, 0, 0, 0, 0, 0, 0, 0, 0, 0, 0, 0, 0, 0, 0, 0, 0, 0, 0, 0, 0, 0, 0, 0, 0, 0, 0, 0, 0, 0, 0, 0, 0, 0, 0, 0, 0, 0, 0, 0, 0, 0, 0, 0, 0, 0, 0, 0, 0, 0, 0, 0, 0, 0, 0, 0, 0, 0, 0, 0, 0, 0, 0, 0, 0, 0, 0, 0, 0, 0, 0, 0, 0, 0, 0, 0, 0, 0, 0, 0, 0, 0, 0, 0, 0, 0, 0, 0, 0, 0, 0, 0, 0, 0, 0, 0, 0])⟩),
(73, ⟨(.ptr 48), 1, 8, .nilPtr⟩),
(74, ⟨(.array 4 5), 4, 4, (.ints .u8 [0, 0, 0, 0])⟩),
(75, ⟨.func, 1, 8, .nilFunc⟩),
(76, ⟨.func, 1, 8, .nilFunc⟩),
(77, ⟨.func, 1, 8, .nilFunc⟩),
(78, ⟨.func, 1, 8, .nilFunc⟩),
(79, ⟨.func, 1, 8, .nilFunc⟩),
(80, ⟨.func, 1, 8, .nilFunc⟩),
(81, ⟨(.slice 25), 1, 24, .nilSlice⟩),
(82, ⟨.func, 1, 8, .nilFunc⟩),
(83, ⟨.func, 1, 8, .nilFunc⟩),
(84, ⟨.func, 1, 8, .nilFunc⟩),
(85, ⟨.func, 1, 8, .nilFunc⟩),
(86, ⟨.func, 1, 8, .nilFunc⟩),
(87, ⟨.func, 1, 8, .nilFunc⟩),
(88, ⟨.func, 1, 8, .nilFunc⟩),
(89, ⟨.func, 1, 8, .nilFunc⟩),
(90, ⟨(.struct [(0, 17), (1, 17), (2, 17), (3, 9)]), 4, 40, (.agg [.nilPtr, .nilPtr, .nilPtr, (.str [])])⟩),
(91, ⟨(.struct [(0, 17), (1, 17), (2, 17), (3, 9)]), 4, 40, (.agg [.nilPtr, .nilPtr, .nilPtr, (.str [])])⟩),
(92, ⟨(.array 0 16), 0, 0, (.agg [])⟩),
(93, ⟨(.struct [(0, 92)]), 0, 0, (.agg [])⟩),
(94, ⟨(.struct [(0, 92)]), 0, 0, (.agg [])⟩),
(95, ⟨.func, 1, 8, .nilFunc⟩),
(96, ⟨(.int .u32), 1, 4, (.int .u32 0)⟩),
(97, ⟨(.int .u8), 1, 1, (.int .u8 0)⟩),
(98, ⟨(.int .u8), 1, 1, (.int .u8 0)⟩),
(99, ⟨.func, 1, 8, .nilFunc⟩),
(100, ⟨(.ptr 5), 1, 8, .nilPtr⟩),
(101, ⟨(.int .i32), 1, 4, (.int .i32 0)⟩),
(102, ⟨(.int .i32), 1, 4, (.int .i32 0)⟩),
(103, ⟨(.struct [(0, 12), (1, 12), (2, 96), (3, 97), (4, 5), (5, 5), (6, 98), (7, 99), (8, 100), (9, 101), (10, 102)]), 11, 48, (.agg [(.int .u64 0), (.int .u64 0), (.int .u32 0), (.int .u8 0), (.int .u8 0), (.int .u8 0), (.int .u8 0), .nilFunc, .nilPtr, (.int .i32 0), (.int .i32 0)])⟩),
(104, ⟨(.struct [(0, 12), (1, 12), (2, 96), (3, 97), (4, 5), (5, 5), (6, 98), (7, 99), (8, 100), (9, 101), (10, 102)]), 11, 48, (.agg [(.int .u64 0), (.int .u64 0), (.int .u32 0), (.int .u8 0), (.int .u8 0), (.int .u8 0), (.int .u8 0), .nilFunc, .nilPtr, (.int .i32 0), (.int .i32 0)])⟩),
(105, ⟨.other, 1, 8, .nilPtr⟩)]
theorem tysA_ok : TysOk Go.Proofs.Try.prog tysA := by
  refine ⟨?_, ?_, ?_, ?_, ?_, ?_, ?_, ?_, ?_, ?_, ?_, ?_, ?_, ?_, ?_, ?_, ?_, ?_, ?_, ?_, ?_, ?_, ?_, ?_, ?_, ?_, ?_, ?_, ?_, ?_, ?_, ?_, ?_, ?_, ?_, ?_, ?_, ?_, ?_, ?_, ?_, ?_, ?_, ?_, ?_, ?_, ?_, ?_, ?_, ?_, ?_, ?_, ?_, ?_, ?_, ?_, ?_, ?_, ?_, ?_, ?_, ?_, ?_, ?_, ?_, ?_, ?_, ?_, ?_, ?_, ?_, ?_, ?_, ?_, ?_, ?_, ?_, ?_, ?_, ?_, ?_, ?_, ?_, ?_, ?_, ?_, ?_, ?_, ?_, ?_, ?_, ?_, ?_, ?_, ?_, ?_, ?_, ?_, ?_, ?_, ?_, ?_, ?_, trivial⟩ <;> kernel_rfl
end Go.Abs

set_option linter.unusedVariables false
namespace Go.Abs
noncomputable def eA (fns : List (Nat × Summary)) : Env := envOf Go.Proofs.Try.prog tysA fns (fun _ => none)
theorem hmA : Go.Proofs.Try.prog.follows .mixedOrders = true := by kernel_rfl
theorem eA0_ok : EnvOk (eA []) := envOf_ok tysA_ok trivial
end Go.Abs

set_option linter.unusedVariables false
set_option linter.unusedSimpArgs false
namespace Go.Abs
open Go.Proofs.Try
def txLaw (a : Int) : Nat → Int
  | 0 => a
  | i + 1 => if 255 < txLaw a i * 2 then ixor (txLaw a i * 2) 283 else txLaw a i * 2
def tpLaw (a b : Int) : Nat → Int
  | 0 => 0
  | i + 1 => if (iand (b / 2 ^ i) 1 == 1) = true then ixor (tpLaw a b i) (txLaw a i) else tpLaw a b i
theorem xor283 : ∀ y, y < 512 → 255 < y → y ^^^ 283 < 256 := by
  have : ((List.range 512).all fun y => !decide (255 < y) || decide (y ^^^ 283 < 256)) = true := by decide +kernel
  intro y hy h
  have := List.all_eq_true.1 this y (List.mem_range.2 hy)
  simpa [h] using this
theorem txLaw_lt {a : Int} (ha : 0 ≤ a ∧ a < 256) : ∀ i, 0 ≤ txLaw a i ∧ txLaw a i < 256
  | 0 => ha
  | i + 1 => by
    have := txLaw_lt ha i
    unfold txLaw
    split
    · have := xor283 (txLaw a i * 2).toNat (by omega) (by omega)
      unfold ixor
      simp only [show (283 : Int).toNat = 283 from rfl]
      omega
    · omega
theorem ixor_lt8 {a b : Int} (ha : 0 ≤ a ∧ a < 256) (hb : 0 ≤ b ∧ b < 256) : 0 ≤ ixor a b ∧ ixor a b < 256 := by
  have := Nat.xor_lt_two_pow (n := 8) (x := a.toNat) (y := b.toNat) (by omega) (by omega)
  unfold ixor; omega
theorem tpLaw_lt {a b : Int} (ha : 0 ≤ a ∧ a < 256) : ∀ i, 0 ≤ tpLaw a b i ∧ tpLaw a b i < 256
  | 0 => by simp [tpLaw]
  | i + 1 => by
    unfold tpLaw
    split
    · exact ixor_lt8 (tpLaw_lt ha i) (txLaw_lt ha i)
    · exact tpLaw_lt ha i
def timesLaw (a b : Int) : Int := tpLaw a b 8
theorem timesLaw_lt {a b : Int} (ha : 0 ≤ a ∧ a < 256) : 0 ≤ timesLaw a b ∧ timesLaw a b < 256 := tpLaw_lt ha 8
end Go.Abs

set_option linter.unusedVariables false
set_option linter.unusedSimpArgs false
set_option maxRecDepth 8000
namespace Go.Abs
open Go.Proofs.Try
end Go.Abs

set_option linter.unusedVariables false
set_option linter.unusedSimpArgs false
set_option maxRecDepth 8000
namespace Go.Abs
open Go.Proofs.Try
def BOXLaw : List Int := [99, 124, 119, 123, 242, 107, 111, 197, 48, 1, 103, 43, 254, 215, 171, 118, 202, 130, 201, 125, 250, 89, 71, 240, 173, 212, 162, 175, 156, 164, 114, 192, 183, 253, 147, 38, 54, 63, 247, 204, 52, 165, 229, 241, 113, 216, 49, 21, 4, 199, 35, 195, 24, 150, 5, 154, 7, 18, 128, 226, 235, 39, 178, 117, 9, 131, 44, 26, 27, 110, 90, 160, 82, 59, 214, 179, 41, 227, 47, 132, 83, 209, 0, 237, 32, 252, 177, 91, 106, 203, 190, 57, 74, 76, 88, 207, 208, 239, 170, 251, 67, 77, 51, 133, 69, 249, 2, 127, 80, 60, 159, 168, 81, 163, 64, 143, 146, 157, 56, 245, 188, 182, 218, 33, 16, 255, 243, 210, 205, 12, 19, 236, 95, 151, 68, 23, 196, 167, 126, 61, 100, 93, 25, 115, 96, 129, 79, 220, 34, 42, 144, 136, 70, 238, 184, 20, 222, 94, 11, 219, 224, 50, 58, 10, 73, 6, 36, 92, 194, 211, 172, 98, 145, 149, 228, 121, 231, 200, 55, 109, 141, 213, 78, 169, 108, 86, 244, 234, 101, 122, 174, 8, 186, 120, 37, 46, 28, 166, 180, 198, 232, 221, 116, 31, 75, 189, 139, 138, 112, 62, 181, 102, 72, 3, 246, 14, 97, 53, 87, 185, 134, 193, 29, 158, 225, 248, 152, 17, 105, 217, 142, 148, 155, 30, 135, 233, 206, 85, 40, 223, 140, 161, 137, 13, 191, 230, 66, 104, 65, 153, 45, 15, 176, 84, 187, 22]
end Go.Abs

set_option linter.unusedVariables false
set_option linter.unusedSimpArgs false
set_option maxRecDepth 8000
namespace Go.Abs
open Go.Proofs.Try
def strOps : List Oper → List UInt8
  | [] => []
  | o :: r => match o.op with
    | .index _ (.const (.string s)) _ => s.data.toList
    | _ => strOps r
def strCode : Code → List UInt8
  | .seq a b => match strCode a with | [] => strCode b | x :: r => x :: r
  | .region _ ops _ => strOps ops.toList
  | _ => []
noncomputable def boxS : List UInt8 := strCode (bodyOf f15)
noncomputable def R15 (x : Int) : Res := runF (eA []) f15 [] 100 [.int .u8 x] [] []
theorem boxS_eq : (boxS.length, boxS.map fun c => (c.toNat : Int)) = (256, BOXLaw) := by kernel_rfl
theorem R15_val {x : Int} : (R15 x).val = .int .u8 ((boxS.getD x.toNat 0).toNat : Int) := by kernel_rfl
theorem R15_tab {x : Int} : (R15 x).tab = [] := by kernel_rfl
theorem R15_cs {x : Int} : (R15 x).cs = [.leI 0 x, .leI (x + 1) boxS.length] := by kernel_rfl
def boxLaw (x : Int) : Int := BOXLaw.getD x.toNat 0
theorem boxS_get (n : Nat) : ((boxS.getD n 0).toNat : Int) = BOXLaw.getD n 0 := by
  have h2 : (boxS.map fun c => (c.toNat : Int)) = BOXLaw := (Prod.mk.inj boxS_eq).2
  rw [← h2]
  simp only [List.getD, List.getElem?_map]
  cases boxS[n]? <;> rfl
def sm15 : Summary := fun args T => match args, T with
  | [.int .u8 x], [] => ⟨[.rng 0 x 255], .int .u8 (boxLaw x), []⟩
  | _, _ => fail
theorem sm15_ok : SmOk prog (fun _ => none) 15 sm15 := by
  intro args T hc
  unfold sm15 at hc ⊢
  split at hc
  · rename_i x
    obtain ⟨h1, _⟩ := hc
    simp only [Con.h] at h1
    have hl : boxS.length = 256 := (Prod.mk.inj boxS_eq).1
    refine small_of (R := R15 x) eA0_ok hmA (f := 15) (fn := f15) (by kernel_rfl) (by kernel_rfl) FnOrc.nil rfl (OkR.of R15_cs ?_) ?_ R15_tab
    · simp only [allP, Con.h, hl, and_true]; omega
    · rw [R15_val, boxS_get]; rfl
  · exact absurd hc nofail
def S15 : Summary := callR sm15 []
theorem S15_ok : SumOk prog (fun _ => none) 15 S15 := callR_ok sm15_ok []
end Go.Abs

set_option linter.unusedVariables false
set_option linter.unusedSimpArgs false
set_option maxRecDepth 8000
namespace Go.Abs
open Go.Proofs.Try
end Go.Abs

set_option linter.unusedVariables false
set_option linter.unusedSimpArgs false
set_option maxRecDepth 8000
namespace Go.Abs
open Go.Proofs.Try
noncomputable def R66t (x : Int) : Res := runF (eA []) f66 [] 100 [.int .u8 x] [] [some true]
theorem R66t_ok {x : Int} (h : allP [.nn .u8 x, .p ((iand x 128 != 0) = true), .nn .u8 (x * 2 % 256)]) : OkR (R66t x) := OkR.dem (fl := [true, false, true, false, false, true]) (by kernel_rfl) (by kernel_rfl) (by kernel_rfl) h
theorem R66t_val {x : Int} : (R66t x).val = .int .u8 (ixor (x * 2 % 256) 27) := by kernel_rfl
theorem R66t_tab {x : Int} : (R66t x).tab = [] := by kernel_rfl
noncomputable def R66f (x : Int) : Res := runF (eA []) f66 [] 100 [.int .u8 x] [] [some false]
theorem R66f_ok {x : Int} (h : allP [.nn .u8 x, .p ((iand x 128 != 0) = false)]) : OkR (R66f x) := OkR.dem (fl := [true, false, true, false]) (by kernel_rfl) (by kernel_rfl) (by kernel_rfl) h
theorem R66f_val {x : Int} : (R66f x).val = .int .u8 (x * 2 % 256) := by kernel_rfl
theorem R66f_tab {x : Int} : (R66f x).tab = [] := by kernel_rfl
def dblLaw (x : Int) : Int := if iand x 128 ≠ 0 then ixor (x * 2 % 256) 27 else x * 2 % 256
theorem dblLaw_lt {x : Int} : 0 ≤ dblLaw x ∧ dblLaw x < 256 := by
  unfold dblLaw
  split
  · exact ixor_lt8 (by omega) (by omega)
  · omega
def sm66 : Summary := fun args T => match args, T with
  | [.int .u8 x], [] => ⟨[.rng 0 x 255], .int .u8 (dblLaw x), []⟩
  | _, _ => fail
theorem sm66_ok : SmOk prog (fun _ => none) 66 sm66 := by
  intro args T hc
  unfold sm66 at hc ⊢
  split at hc
  · rename_i x
    obtain ⟨h1, _⟩ := hc
    simp only [Con.h] at h1
    simp only
    have hx : nonneg .u8 x := by rw [nn8]; omega
    have hx2 : nonneg .u8 (x * 2 % 256) := by rw [nn8]; omega
    unfold dblLaw
    by_cases h : iand x 128 = 0
    · rw [if_neg (by simpa using h)]
      exact small_of (R := R66f x) eA0_ok hmA (f := 66) (fn := f66) (by kernel_rfl) (by kernel_rfl) FnOrc.nil rfl (R66f_ok (by simp [allP, Con.h, h, hx])) R66f_val R66f_tab
    · rw [if_pos h]
      exact small_of (R := R66t x) eA0_ok hmA (f := 66) (fn := f66) (by kernel_rfl) (by kernel_rfl) FnOrc.nil rfl (R66t_ok (by simp [allP, Con.h, h, hx, hx2])) R66t_val R66t_tab
  · exact absurd hc nofail
def S66 : Summary := callR sm66 []
theorem S66_ok : SumOk prog (fun _ => none) 66 S66 := callR_ok sm66_ok []
/-! ### newTable -/
noncomputable def eG : Env := eA [(15, S15)]
theorem eG_ok : EnvOk eG := envOf_ok tysA_ok (SumsOk.cons (fn := f15) S15_ok (by kernel_rfl) (by kernel_rfl) (by kernel_rfl) trivial)
noncomputable def A40 (i : Int) (xs : List Int) : Out := trim 1 1 [1,6] (run eG 27 ⟨1, []⟩ 100 (roundOf 0 f40) [(1, .var 0 0), (6, .int .i64 i)] [some ⟨.ints .u8 xs, 0, true, 72⟩] [some true])
theorem A40_ok {i : Int} {xs : List Int} (h : allP [.p (decide (i < 256) = true), .rng 0 (i % 256) 255, .leI 0 i, .leI (i + 1) 256, .leN (i.toNat + 1) xs.length, .leI 0 (boxLaw (i % 256)), .leI (boxLaw (i % 256) + 1) 256, .leN (256 + (boxLaw (i % 256)).toNat + 1) (xs.set i.toNat (boxLaw (i % 256))).length, .rng (-9223372036854775808) (i + 1) 9223372036854775807]) : Ok (A40 i xs) := Ok.dem (fl :=
 bitsF 32 775338368) (by kernel_rfl) (by kernel_rfl) (by kernel_rfl) h
theorem A40_ex {i : Int} {xs : List Int} : (A40 i xs).ex = .normal := by kernel_rfl
theorem A40_fm {i : Int} {xs : List Int} : (A40 i xs).fm = [(1, .var 0 0), (6, .int .i64 (i + 1))] := by kernel_rfl
theorem A40_tab {i : Int} {xs : List Int} : (A40 i xs).tab = [some ⟨.ints .u8 ((xs.set i.toNat (boxLaw (i % 256))).set (256 + (boxLaw (i % 256)).toNat) (i % 256)), 0, true, 72⟩] := by kernel_rfl
noncomputable def B40 (i : Int) (xs : List Int) : Out := trim 1 1 [1] (run eG 27 ⟨1, []⟩ 100 (roundOf 0 f40) [(1, .var 0 0), (6, .int .i64 i)] [some ⟨.ints .u8 xs, 0, true, 72⟩] [some false])
theorem B40_ok {i : Int} {xs : List Int} (h : allP [.p (decide (i < 256) = false)]) : Ok (B40 i xs) := Ok.dem (fl := [false]) (by kernel_rfl) (by kernel_rfl) (by kernel_rfl) h
theorem B40_ex {i : Int} {xs : List Int} : (B40 i xs).ex = .exit 0 := by kernel_rfl
theorem B40_fm {i : Int} {xs : List Int} : (B40 i xs).fm = [(1, .var 0 0)] := by kernel_rfl
theorem B40_tab {i : Int} {xs : List Int} : (B40 i xs).tab = [some ⟨.ints .u8 xs, 0, true, 72⟩] := by kernel_rfl
def UNBOXLaw : List Int := [82, 9, 106, 213, 48, 54, 165, 56, 191, 64, 163, 158, 129, 243, 215, 251, 124, 227, 57, 130, 155, 47, 255, 135, 52, 142, 67, 68, 196, 222, 233, 203, 84, 123, 148, 50, 166, 194, 35, 61, 238, 76, 149, 11, 66, 250, 195, 78, 8, 46, 161, 102, 40, 217, 36, 178, 118, 91, 162, 73, 109, 139, 209, 37, 114, 248, 246, 100, 134, 104, 152, 22, 212, 164, 92, 204, 93, 101, 182, 146, 108, 112, 72, 80, 253, 237, 185, 218, 94, 21, 70, 87, 167, 141, 157, 132, 144, 216, 171, 0, 140, 188, 211, 10, 247, 228, 88, 5, 184, 179, 69, 6, 208, 44, 30, 143, 202, 63, 15, 2, 193, 175, 189, 3, 1, 19, 138, 107, 58, 145, 17, 65, 79, 103, 220, 234, 151, 242, 207, 206, 240, 180, 230, 115, 150, 172, 116, 34, 231, 173, 53, 133, 226, 249, 55, 232, 28, 117, 223, 110, 71, 241, 26, 113, 29, 41, 197, 137, 111, 183, 98, 14, 170, 24, 190, 27, 252, 86, 62, 75, 198, 210, 121, 32, 154, 219, 192, 254, 120, 205, 90, 244, 31, 221, 168, 51, 136, 7, 199, 49, 177, 18, 16, 89, 39, 128, 236, 95, 96, 81, 127, 169, 25, 181, 74, 13, 45, 229, 122, 159, 147, 201, 156, 239, 160, 224, 59, 77, 174, 42, 245, 176, 200, 235, 187, 60, 131, 83, 153, 97, 23, 43, 4, 126, 186, 119, 214, 38, 225, 105, 20, 99, 85, 33, 12, 125]
def TABLaw : List Int := BOXLaw ++ UNBOXLaw
def tabLaw : Nat → List Int
  | 0 => List.replicate 512 0
  | i + 1 => ((tabLaw i).set i (boxLaw i)).set (256 + (boxLaw i).toNat) i
theorem tabLaw_len : ∀ i, (tabLaw i).length = 512
  | 0 => by simp [tabLaw]
  | i + 1 => by simp [tabLaw, tabLaw_len i]
theorem tabLaw_eq : tabLaw 256 = TABLaw := by kernel_rfl
theorem boxLaw_rng {x : Int} (h : 0 ≤ x ∧ x < 256) : 0 ≤ boxLaw x ∧ boxLaw x < 256 := by
  have : ((List.range 256).all fun i => decide (0 ≤ BOXLaw.getD i 0) && decide (BOXLaw.getD i 0 < 256)) = true := by kernel_rfl
  have := List.all_eq_true.1 this x.toNat (List.mem_range.2 (by omega))
  simpa [boxLaw] using this
def F40 (i : Nat) : Fm := [(1, .var 0 0), (6, .int .i64 i)]
theorem loop40 : To eG 27 1 (.block 0 (.loop (roundOf 0 f40))) (F40 0) [some ⟨.ints .u8 (tabLaw 0), 0, true, 72⟩] .normal [(1, .var 0 0)] [some ⟨.ints .u8 TABLaw, 0, true, 72⟩] := by
  rw [← tabLaw_eq]
  refine To.rounds F40 (fun i => [some ⟨.ints .u8 (tabLaw i), 0, true, 72⟩]) 256 (fun i hi => ?_) ?_
  · have hl := tabLaw_len i
    have hm : (i : Int) % 256 = i := by omega
    have hb := boxLaw_rng (x := i) (by omega)
    refine To.of (o := A40 i (tabLaw i)) eG_ok hmA (Nat.le_refl 1) OrcOk.nil rfl (A40_ok ?_) A40_ex A40_fm ?_
    · rw [hm]
      generalize boxLaw i = b at hb
      simp only [allP, Con.h, nonneg, Int.toNat_natCast, decide_eq_true_eq, decide_eq_false_iff_not, eq_self, true_and, and_true, Bool.true_eq, addO_eq, mulO_eq, Nat.zero_add, hl, List.length_set]
      omega
    · rw [A40_tab, hm, Int.toNat_natCast]; rfl
  · exact To.of (o := B40 (256 : Nat) (tabLaw 256)) eG_ok hmA (Nat.le_refl 1) OrcOk.nil rfl (B40_ok (by simp [allP, Con.h])) B40_ex B40_fm B40_tab
def g40 : List AVal → Tab → Out := fun vs T => match vs, T with
  | [.var 0 0, .int .i64 i], [some ⟨.ints .u8 xs, 0, true, 72⟩] => ⟨[.rng 0 i 0, .p (xs = tabLaw 0)], .normal, [(1, .var 0 0)], [some ⟨.ints .u8 TABLaw, 0, true, 72⟩], []⟩
  | _, _ => failO
theorem g40_ok : BlkOk eG f40 0 (.loop (roundOf 0 f40)) (blkS 1 [1,6] g40) := by
  refine blkS_ok fun vs T h => ?_
  unfold g40 at h ⊢
  split at h
  · rename_i i xs
    obtain ⟨h1, h2, _⟩ := h.h
    simp only [Con.h] at h1 h2
    obtain rfl : i = 0 := by omega
    subst h2
    exact loop40
  · exact absurd h nofailO
noncomputable def orc40 : OrcL := [(0, blkS 1 [1,6] g40)]
theorem orc40_ok : FnOrc eG f40 orc40 := FnOrc.cons g40_ok (by kernel_rfl) FnOrc.nil
noncomputable def R40  : Res := runF eG f40 orc40 100 [] [] []
theorem R40_ok  (h : allP [.p ([0, 0, 0, 0, 0, 0, 0, 0, 0, 0, 0, 0, 0, 0, 0, 0, 0, 0, 0, 0, 0, 0, 0, 0, 0, 0, 0, 0, 0, 0, 0, 0, 0, 0, 0, 0, 0, 0, 0, 0, 0, 0, 0, 0, 0, 0, 0, 0, 0, 0, 0, 0, 0, 0, 0, 0, 0, 0, 0, 0, 0, 0, 0, 0, 0, 0, 0, 0, 0, 0, 0, 0, 0, 0, 0, 0, 0, 0, 0, 0, 0, 0, 0, 0, 0, 0, 0, 0, 0, 0, 0, 0, 0, 0, 0, 0, 0, 0, 0, 0, 0, 0, 0, 0, 0, 0, 0, 0, 0, 0, 0, 0, 0, 0, 0, 0, 0, 0, 0, 0, 0, 0, 0,
 0, 0, 0, 0, 0, 0, 0, 0, 0, 0, 0, 0, 0, 0, 0, 0, 0, 0, 0, 0, 0, 0, 0, 0, 0, 0, 0, 0, 0, 0, 0, 0, 0, 0, 0, 0, 0, 0, 0, 0, 0, 0, 0, 0, 0, 0, 0, 0, 0, 0, 0, 0, 0, 0, 0, 0, 0, 0, 0, 0, 0, 0, 0, 0, 0, 0, 0, 0, 0, 0, 0, 0, 0, 0, 0, 0, 0, 0, 0, 0, 0, 0, 0, 0, 0, 0, 0, 0, 0, 0, 0, 0, 0, 0, 0, 0, 0, 0, 0, 0, 0, 0, 0, 0, 0, 0, 0, 0, 0, 0, 0, 0, 0, 0, 0, 0, 0, 0, 0, 0, 0, 0, 0, 0, 0, 0, 0, 0, 0, 0, 0, 0, 0, 0,
 0, 0, 0, 0, 0, 0, 0, 0, 0, 0, 0, 0, 0, 0, 0, 0, 0, 0, 0, 0, 0, 0, 0, 0, 0, 0, 0, 0, 0, 0, 0, 0, 0, 0, 0, 0, 0, 0, 0, 0, 0, 0, 0, 0, 0, 0, 0, 0, 0, 0, 0, 0, 0, 0, 0, 0, 0, 0, 0, 0, 0, 0, 0, 0, 0, 0, 0, 0, 0, 0, 0, 0, 0, 0, 0, 0, 0, 0, 0, 0, 0, 0, 0, 0, 0, 0, 0, 0, 0, 0, 0, 0, 0, 0, 0, 0, 0, 0, 0, 0, 0, 0, 0, 0, 0, 0, 0, 0, 0, 0, 0, 0, 0, 0, 0, 0, 0, 0, 0, 0, 0, 0, 0, 0, 0, 0, 0, 0, 0, 0, 0, 0, 0, 0,
 0, 0, 0, 0, 0, 0, 0, 0, 0, 0, 0, 0, 0, 0, 0, 0, 0, 0, 0, 0, 0, 0, 0, 0, 0, 0, 0, 0, 0, 0, 0, 0, 0, 0, 0, 0, 0, 0, 0, 0, 0, 0, 0, 0, 0, 0, 0, 0, 0, 0, 0, 0, 0, 0, 0, 0, 0, 0, 0, 0, 0, 0, 0, 0, 0, 0, 0, 0, 0, 0, 0, 0, 0, 0, 0, 0, 0, 0, 0, 0, 0, 0, 0, 0, 0, 0, 0, 0, 0, 0, 0, 0, 0, 0, 0, 0, 0, 0, 0, 0, 0, 0, 0, 0, 0, 0, 0, 0, 0, 0, 0, 0, 0, 0, 0, 0, 0, 0, 0, 0, 0] = tabLaw 0)]) : OkR (R40 ) := OkR.dem
 (fl := [true, false]) (by kernel_rfl) (by kernel_rfl) (by kernel_rfl) h
theorem R40_val  : (R40 ).val = .var 0 0 := by kernel_rfl
theorem R40_tab  : (R40 ).tab = [some ⟨.ints .u8 TABLaw, 0, true, 72⟩] := by kernel_rfl
def sm40 : Summary := fun args T => match args, T with
  | [], [] => ⟨[], .var 0 0, [some ⟨.ints .u8 TABLaw, 0, true, 72⟩]⟩
  | _, _ => fail
theorem sm40_ok : SmOk prog (fun _ => none) 40 sm40 := by
  intro args T hc
  unfold sm40 at hc ⊢
  split at hc
  · exact small_of (R := R40) eG_ok hmA (f := 40) (fn := f40) (by kernel_rfl) (by kernel_rfl) orc40_ok rfl (R40_ok ⟨(by show _ = _; kernel_rfl), trivial⟩) R40_val R40_tab
  · exact absurd hc nofail
def S40 : Summary := callR sm40 []
theorem S40_ok : SumOk prog (fun _ => none) 40 S40 := callR_ok sm40_ok []
end Go.Abs

set_option linter.unusedVariables false
set_option linter.unusedSimpArgs false
namespace Go.Abs
/-! ### the schedule of keys, byte by byte -/
theorem ixor_comm (a b : Int) : ixor a b = ixor b a := by simp [ixor, Nat.xor_comm]
def rcLaw : Nat → Int
  | 0 => 1
  | i + 1 => dblLaw (rcLaw i)
theorem rcLaw_lt : ∀ i, 0 ≤ rcLaw i ∧ rcLaw i < 256
  | 0 => by decide
  | i + 1 => dblLaw_lt
def knLaw (q : List Int) (j : Nat) (c : Int) : Int := ixor (q.getD j 0) (if j = 0 then ixor (boxLaw (q.getD 13 0)) c else if j < 4 then boxLaw (q.getD (12 + (j + 1) % 4) 0) else q.getD (12 + j) 0)
def kNextLaw (l : List Int) (n : Nat) : Int := knLaw (l.drop (16 * (n / 16) - 16)) (n % 16) (rcLaw (n / 16 - 1))
def kLaw (key : List Int) : Nat → List Int
  | 0 => key
  | n + 1 => kLaw key n ++ [kNextLaw (kLaw key n) (16 + n)]
/-- the first so many bytes, from 16 on -/
def ksLaw (key : List Int) (n : Nat) : List Int := kLaw key (n - 16)
theorem ksLaw_len {key : List Int} (hk : key.length = 16) {n : Nat} (h : 16 ≤ n) : (ksLaw key n).length = n := by
  have : ∀ m, (kLaw key m).length = 16 + m := fun m => by
    induction m with
    | zero => simpa [kLaw] using hk
    | succ m ih => simp [kLaw, ih]; omega
  unfold ksLaw; rw [this]; omega
theorem ksLaw_succ {key : List Int} {n : Nat} (h : 16 ≤ n) : ksLaw key (n + 1) = ksLaw key n ++ [kNextLaw (ksLaw key n) n] := by
  obtain ⟨m, rfl⟩ : ∃ m, n = 16 + m := ⟨n - 16, by omega⟩
  unfold ksLaw
  rw [show 16 + m + 1 - 16 = m + 1 by omega, show 16 + m - 16 = m by omega]
  rfl
theorem getD_drop {l : List Int} {a j : Nat} : (l.drop a).getD j 0 = l.getD (a + j) 0 := by simp [List.getD]
/-- sixteen steps -/
def stepsLaw (c : Int) (q : List Int) : Nat → List Int
  | 0 => q
  | j + 1 => stepsLaw c q j ++ [knLaw (stepsLaw c q j) j c]
theorem ks_steps {key : List Int} (hk : key.length = 16) {R : Nat} (hR : 1 ≤ R) : ∀ j, j ≤ 16 → (ksLaw key (16 * R + j)).drop (16 * R - 16) = stepsLaw (rcLaw (R - 1)) ((ksLaw key (16 * R)).drop (16 * R - 16)) j ∧ (ksLaw key (16 * R + j)).take (16 * R - 16) = (ksLaw key (16 * R)).take (16 * R - 16)
  | 0, _ => ⟨rfl, rfl⟩
  | j + 1, hj => by
    obtain ⟨h1, h2⟩ := ks_steps hk hR j (by omega)
    have hl := ksLaw_len hk (n := 16 * R + j) (by omega)
    rw [show 16 * R + (j + 1) = 16 * R + j + 1 by omega, ksLaw_succ (by omega)]
    refine ⟨?_, ?_⟩
    · rw [List.drop_append_of_le_length (by omega), h1]
      show _ = stepsLaw _ _ j ++ [knLaw (stepsLaw _ _ j) j _]
      rw [← h1]
      unfold kNextLaw
      rw [show (16 * R + j) / 16 = R by omega, show (16 * R + j) % 16 = j by omega]
    · rw [List.take_append_of_le_length (by omega), h2]
theorem stepsLaw_pre (c : Int) (q : List Int) : ∀ j, ∃ s, stepsLaw c q j = q ++ s ∧ s.length = j
  | 0 => ⟨[], by simp [stepsLaw], rfl⟩
  | j + 1 => by
    obtain ⟨s, h, hl⟩ := stepsLaw_pre c q j
    exact ⟨s ++ [knLaw (stepsLaw c q j) j c], by rw [stepsLaw, h, List.append_assoc], by simp [hl]⟩
def nextLaw (q : List Int) (c : Int) : List Int := (stepsLaw c q 16).drop 16
theorem ks_next {key : List Int} (hk : key.length = 16) {R : Nat} (hR : 1 ≤ R) : ksLaw key (16 * R + 16) = ksLaw key (16 * R) ++ nextLaw ((ksLaw key (16 * R)).drop (16 * R - 16)) (rcLaw (R - 1)) := by
  obtain ⟨h1, h2⟩ := ks_steps hk hR 16 (Nat.le_refl _)
  have hl := ksLaw_len hk (n := 16 * R) (by omega)
  obtain ⟨s, hs, hsl⟩ := stepsLaw_pre (rcLaw (R - 1)) ((ksLaw key (16 * R)).drop (16 * R - 16)) 16
  have hq : ((ksLaw key (16 * R)).drop (16 * R - 16)).length = 16 := by simp [hl]; omega
  rw [← List.take_append_drop (16 * R - 16) (ksLaw key (16 * R + 16)), h1, h2, hs, ← List.append_assoc, List.take_append_drop]
  unfold nextLaw
  rw [hs, List.drop_append_of_le_length (by omega), List.drop_of_length_le (by omega)]
  simp
theorem set_zeros {l : List Int} {v : Int} {m : Nat} : (l ++ List.replicate (m + 1) 0).set l.length v = (l ++ [v]) ++ List.replicate m 0 := by
  rw [List.set_append, if_neg (by omega)]
  simp [List.replicate_succ]
def Bytes (l : List Int) : Prop := ∀ i, i < l.length → 0 ≤ l.getD i 0 ∧ l.getD i 0 < 256
theorem Bytes.get {l : List Int} (h : Bytes l) (i : Nat) : 0 ≤ l.getD i 0 ∧ l.getD i 0 < 256 := by
  rcases Nat.lt_or_ge i l.length with hi | hi
  · exact h i hi
  · rw [List.getD_eq_getElem?_getD, List.getElem?_eq_none hi]; decide
theorem Bytes.append {a b : List Int} (ha : Bytes a) (hb : Bytes b) : Bytes (a ++ b) := by
  intro i _
  rcases Nat.lt_or_ge i a.length with hi | hi
  · rw [List.getD_eq_getElem?_getD, List.getElem?_append_left hi, ← List.getD_eq_getElem?_getD]; exact ha.get i
  · rw [List.getD_eq_getElem?_getD, List.getElem?_append_right hi, ← List.getD_eq_getElem?_getD]; exact hb.get _
theorem Bytes.one {x : Int} (h : 0 ≤ x ∧ x < 256) : Bytes [x] := by
  intro i hi
  match i, hi with
  | 0, _ => exact h
theorem Bytes.drop {l : List Int} (h : Bytes l) (n : Nat) : Bytes (l.drop n) := fun i _ => by rw [getD_drop]; exact h.get _
theorem Bytes.take {l : List Int} (h : Bytes l) (n : Nat) : Bytes (l.take n) := fun i hi => by
  have : i < n := by simp at hi; omega
  rw [List.getD_eq_getElem?_getD, List.getElem?_take, if_pos this, ← List.getD_eq_getElem?_getD]; exact h.get _
theorem knLaw_rng {q : List Int} (hq : Bytes q) {j : Nat} {c : Int} (hc : 0 ≤ c ∧ c < 256) : 0 ≤ knLaw q j c ∧ knLaw q j c < 256 := by
  unfold knLaw
  refine ixor_lt8 (hq.get _) ?_
  split
  · exact ixor_lt8 (boxLaw_rng (hq.get _)) hc
  · split
    · exact boxLaw_rng (hq.get _)
    · exact hq.get _
theorem ksLaw_bytes {key : List Int} (hk : Bytes key) : ∀ n, Bytes (ksLaw key n) := by
  have : ∀ m, Bytes (kLaw key m) := fun m => by
    induction m with
    | zero => exact hk
    | succ m ih => exact ih.append (.one (knLaw_rng (ih.drop _) (rcLaw_lt _)))
  exact fun n => this _
theorem tab_box {x : Int} (h : 0 ≤ x ∧ x < 256) : TABLaw.getD x.toNat 0 = boxLaw x := by
  unfold TABLaw boxLaw
  rw [List.getD_eq_getElem?_getD, List.getElem?_append_left (by rw [show BOXLaw.length = 256 by kernel_rfl]; omega), List.getD_eq_getElem?_getD]
theorem TABLaw_len : TABLaw.length = 512 := by kernel_rfl
def setsLaw (xs : List Int) (n : Nat) : List Int → List Int
  | [] => xs
  | v :: vs => setsLaw (xs.set n v) (n + 1) vs
theorem setsLaw_zeros : ∀ {vs l : List Int} {m : Nat}, vs.length ≤ m → setsLaw (l ++ List.replicate m 0) l.length vs = l ++ vs ++ List.replicate (m - vs.length) 0
  | [], l, m, _ => by simp [setsLaw]
  | v :: vs, l, m, h => by
    obtain ⟨k, rfl⟩ : ∃ k, m = k + 1 := ⟨m - 1, by simp at h; omega⟩
    rw [setsLaw, set_zeros]
    have := setsLaw_zeros (vs := vs) (l := l ++ [v]) (m := k) (by simpa using h)
    rw [List.length_append] at this
    rw [show l.length + 1 = l.length + [v].length from rfl, this]
    simp
/-- the same, the other way round -/
def knXLaw (q : List Int) (j : Nat) (c : Int) : Int := ixor (if j = 0 then ixor (boxLaw (q.getD 13 0)) c else if j < 4 then boxLaw (q.getD (12 + (j + 1) % 4) 0) else q.getD (12 + j) 0) (q.getD j 0)
def stepsXLaw (c : Int) (q : List Int) : Nat → List Int
  | 0 => q
  | j + 1 => stepsXLaw c q j ++ [knXLaw (stepsXLaw c q j) j c]
theorem stepsX_eq (c : Int) (q : List Int) : ∀ j, stepsXLaw c q j = stepsLaw c q j
  | 0 => rfl
  | j + 1 => by
    rw [stepsXLaw, stepsLaw, stepsX_eq c q j]
    unfold knXLaw knLaw
    rw [ixor_comm]
theorem list16 {l : List Int} (h : l.length = 16) : ∃ a0 a1 a2 a3 a4 a5 a6 a7 a8 a9 a10 a11 a12 a13 a14 a15, l = [a0, a1, a2, a3, a4, a5, a6, a7, a8, a9, a10, a11, a12, a13, a14, a15] := by
  match l, h with
  | [a0, a1, a2, a3, a4, a5, a6, a7, a8, a9, a10, a11, a12, a13, a14, a15], _ => exact ⟨a0, a1, a2, a3, a4, a5, a6, a7, a8, a9, a10, a11, a12, a13, a14, a15, rfl⟩
end Go.Abs

set_option linter.unusedVariables false
set_option linter.unusedSimpArgs false
set_option maxRecDepth 8000
namespace Go.Abs
open Go.Proofs.Try
/-! ### keys, of the program -/
noncomputable def eH : Env := eA [(66, S66)]
theorem eH_ok : EnvOk eH := envOf_ok tysA_ok (SumsOk.cons (fn := f66) S66_ok (by kernel_rfl) (by kernel_rfl) (by kernel_rfl) trivial)
noncomputable def A41 (r c : Int) (xs zz ks tb : List Int) (g g' : Nat) (ow ow' : Bool) : Out := trim 4 4 [0,4,5,6,7] (run eH 81 ⟨4, []⟩ 400 (roundOf 0 f41) [(0, .var 0 g), (4, .var 2 0), (5, .var 3 0), (6, .int .u8 c), (7, .int .i64 r)] [some ⟨.ints .u8 tb, g, ow, 72⟩, some ⟨.ints .u8 ks, g', ow', 5⟩, some ⟨.ints .u8 zz, 0, true, 49⟩, some ⟨.ints .u8 xs, 0, true, 49⟩] [some true])
theorem A41_ok {r c : Int} {xs zz ks tb : List Int} {g g' : Nat} {ow ow' : Bool} (h : allP [.p (decide (r < 11) = true), .rng (-9223372036854775808) (r - 1) 9223372036854775807, .leI 0 (r - 1), .leI (r - 1 + 1) 11, .leN ((r - 1).toNat * 16 + 16) xs.length, .leI 0 r, .leI (r + 1) 11, .leI 0 r, .leI (r + 1) 11, .eqN (List.take 16 (dropO ((r - 1).toNat * 16) xs)).length 16, .leN 14 (List.take 16
 (dropO ((r - 1).toNat * 16) xs)).length, .eqN g g, .eqN g g, .leI 0 ((List.take 16 (dropO ((r - 1).toNat * 16) xs)).getD 13 0), .leI ((List.take 16 (dropO ((r - 1).toNat * 16) xs)).getD 13 0 + 1) 256, .eqN g g, .eqN g g, .leN (((List.take 16 (dropO ((r - 1).toNat * 16) xs)).getD 13 0).toNat + 1) tb.length, .nn .u8 (tb.getD ((List.take 16 (dropO ((r - 1).toNat * 16) xs)).getD 13 0).toNat 0), .nn .u8
 c, .leN 15 (List.take 16 (dropO ((r - 1).toNat * 16) xs)).length, .eqN g g, .eqN g g, .leI 0 ((List.take 16 (dropO ((r - 1).toNat * 16) xs)).getD 14 0), .leI ((List.take 16 (dropO ((r - 1).toNat * 16) xs)).getD 14 0 + 1) 256, .eqN g g, .eqN g g, .leN (((List.take 16 (dropO ((r - 1).toNat * 16) xs)).getD 14 0).toNat + 1) tb.length, .leN 16 (List.take 16 (dropO ((r - 1).toNat * 16) xs)).length, .eqN
 g g, .eqN g g, .leI 0 ((List.take 16 (dropO ((r - 1).toNat * 16) xs)).getD 15 0), .leI ((List.take 16 (dropO ((r - 1).toNat * 16) xs)).getD 15 0 + 1) 256, .eqN g g, .eqN g g, .leN (((List.take 16 (dropO ((r - 1).toNat * 16) xs)).getD 15 0).toNat + 1) tb.length, .leN 13 (List.take 16 (dropO ((r - 1).toNat * 16) xs)).length, .eqN g g, .eqN g g, .leI 0 ((List.take 16 (dropO ((r - 1).toNat * 16)
 xs)).getD 12 0), .leI ((List.take 16 (dropO ((r - 1).toNat * 16) xs)).getD 12 0 + 1) 256, .eqN g g, .eqN g g, .leN (((List.take 16 (dropO ((r - 1).toNat * 16) xs)).getD 12 0).toNat + 1) tb.length, .rng 0 c 255, .leN 1 (List.take 16 (dropO ((r - 1).toNat * 16) xs)).length, .nn .u8 (ixor (tb.getD ((List.take 16 (dropO ((r - 1).toNat * 16) xs)).getD 13 0).toNat 0) c), .nn .u8 ((List.take 16 (dropO ((r
 - 1).toNat * 16) xs)).getD 0 0), .leN (addO (r.toNat * 16) 0 + 1) xs.length, .leN 2 (List.take 16 (dropO ((r - 1).toNat * 16) xs)).length, .nn .u8 (tb.getD ((List.take 16 (dropO ((r - 1).toNat * 16) xs)).getD 14 0).toNat 0), .nn .u8 ((List.take 16 (dropO ((r - 1).toNat * 16) xs)).getD 1 0), .leN (addO (r.toNat * 16) 1 + 1) (xs.set (addO (r.toNat * 16) 0) (ixor (ixor (tb.getD ((List.take 16 (dropO
 ((r - 1).toNat * 16) xs)).getD 13 0).toNat 0) c) ((List.take 16 (dropO ((r - 1).toNat * 16) xs)).getD 0 0))).length, .leN 3 (List.take 16 (dropO ((r - 1).toNat * 16) xs)).length, .nn .u8 (tb.getD ((List.take 16 (dropO ((r - 1).toNat * 16) xs)).getD 15 0).toNat 0), .nn .u8 ((List.take 16 (dropO ((r - 1).toNat * 16) xs)).getD 2 0), .leN (addO (r.toNat * 16) 2 + 1) ((xs.set (addO (r.toNat * 16) 0)
 (ixor (ixor (tb.getD ((List.take 16 (dropO ((r - 1).toNat * 16) xs)).getD 13 0).toNat 0) c) ((List.take 16 (dropO ((r - 1).toNat * 16) xs)).getD 0 0))).set (addO (r.toNat * 16) 1) (ixor (tb.getD ((List.take 16 (dropO ((r - 1).toNat * 16) xs)).getD 14 0).toNat 0) ((List.take 16 (dropO ((r - 1).toNat * 16) xs)).getD 1 0))).length, .leN 4 (List.take 16 (dropO ((r - 1).toNat * 16) xs)).length, .nn .u8
 (tb.getD ((List.take 16 (dropO ((r - 1).toNat * 16) xs)).getD 12 0).toNat 0), .nn .u8 ((List.take 16 (dropO ((r - 1).toNat * 16) xs)).getD 3 0), .leN (addO (r.toNat * 16) 3 + 1) (((xs.set (addO (r.toNat * 16) 0) (ixor (ixor (tb.getD ((List.take 16 (dropO ((r - 1).toNat * 16) xs)).getD 13 0).toNat 0) c) ((List.take 16 (dropO ((r - 1).toNat * 16) xs)).getD 0 0))).set (addO (r.toNat * 16) 1) (ixor
 (tb.getD ((List.take 16 (dropO ((r - 1).toNat * 16) xs)).getD 14 0).toNat 0) ((List.take 16 (dropO ((r - 1).toNat * 16) xs)).getD 1 0))).set (addO (r.toNat * 16) 2) (ixor (tb.getD ((List.take 16 (dropO ((r - 1).toNat * 16) xs)).getD 15 0).toNat 0) ((List.take 16 (dropO ((r - 1).toNat * 16) xs)).getD 2 0))).length, .leN 5 (List.take 16 (dropO ((r - 1).toNat * 16) xs)).length, .nn .u8 (ixor (ixor
 (tb.getD ((List.take 16 (dropO ((r - 1).toNat * 16) xs)).getD 13 0).toNat 0) c) ((List.take 16 (dropO ((r - 1).toNat * 16) xs)).getD 0 0)), .nn .u8 ((List.take 16 (dropO ((r - 1).toNat * 16) xs)).getD 4 0), .leN (addO (r.toNat * 16) 4 + 1) ((((xs.set (addO (r.toNat * 16) 0) (ixor (ixor (tb.getD ((List.take 16 (dropO ((r - 1).toNat * 16) xs)).getD 13 0).toNat 0) c) ((List.take 16 (dropO ((r -
 1).toNat * 16) xs)).getD 0 0))).set (addO (r.toNat * 16) 1) (ixor (tb.getD ((List.take 16 (dropO ((r - 1).toNat * 16) xs)).getD 14 0).toNat 0) ((List.take 16 (dropO ((r - 1).toNat * 16) xs)).getD 1 0))).set (addO (r.toNat * 16) 2) (ixor (tb.getD ((List.take 16 (dropO ((r - 1).toNat * 16) xs)).getD 15 0).toNat 0) ((List.take 16 (dropO ((r - 1).toNat * 16) xs)).getD 2 0))).set (addO (r.toNat * 16) 3)
 (ixor (tb.getD ((List.take 16 (dropO ((r - 1).toNat * 16) xs)).getD 12 0).toNat 0) ((List.take 16 (dropO ((r - 1).toNat * 16) xs)).getD 3 0))).length, .leN 6 (List.take 16 (dropO ((r - 1).toNat * 16) xs)).length, .nn .u8 (ixor (tb.getD ((List.take 16 (dropO ((r - 1).toNat * 16) xs)).getD 14 0).toNat 0) ((List.take 16 (dropO ((r - 1).toNat * 16) xs)).getD 1 0)), .nn .u8 ((List.take 16 (dropO ((r -
 1).toNat * 16) xs)).getD 5 0), .leN (addO (r.toNat * 16) 5 + 1) (((((xs.set (addO (r.toNat * 16) 0) (ixor (ixor (tb.getD ((List.take 16 (dropO ((r - 1).toNat * 16) xs)).getD 13 0).toNat 0) c) ((List.take 16 (dropO ((r - 1).toNat * 16) xs)).getD 0 0))).set (addO (r.toNat * 16) 1) (ixor (tb.getD ((List.take 16 (dropO ((r - 1).toNat * 16) xs)).getD 14 0).toNat 0) ((List.take 16 (dropO ((r - 1).toNat *
 16) xs)).getD 1 0))).set (addO (r.toNat * 16) 2) (ixor (tb.getD ((List.take 16 (dropO ((r - 1).toNat * 16) xs)).getD 15 0).toNat 0) ((List.take 16 (dropO ((r - 1).toNat * 16) xs)).getD 2 0))).set (addO (r.toNat * 16) 3) (ixor (tb.getD ((List.take 16 (dropO ((r - 1).toNat * 16) xs)).getD 12 0).toNat 0) ((List.take 16 (dropO ((r - 1).toNat * 16) xs)).getD 3 0))).set (addO (r.toNat * 16) 4) (ixor
 (ixor (ixor (tb.getD ((List.take 16 (dropO ((r - 1).toNat * 16) xs)).getD 13 0).toNat 0) c) ((List.take 16 (dropO ((r - 1).toNat * 16) xs)).getD 0 0)) ((List.take 16 (dropO ((r - 1).toNat * 16) xs)).getD 4 0))).length, .leN 7 (List.take 16 (dropO ((r - 1).toNat * 16) xs)).length, .nn .u8 (ixor (tb.getD ((List.take 16 (dropO ((r - 1).toNat * 16) xs)).getD 15 0).toNat 0) ((List.take 16 (dropO ((r -
 1).toNat * 16) xs)).getD 2 0)), .nn .u8 ((List.take 16 (dropO ((r - 1).toNat * 16) xs)).getD 6 0), .leN (addO (r.toNat * 16) 6 + 1) ((((((xs.set (addO (r.toNat * 16) 0) (ixor (ixor (tb.getD ((List.take 16 (dropO ((r - 1).toNat * 16) xs)).getD 13 0).toNat 0) c) ((List.take 16 (dropO ((r - 1).toNat * 16) xs)).getD 0 0))).set (addO (r.toNat * 16) 1) (ixor (tb.getD ((List.take 16 (dropO ((r - 1).toNat
 * 16) xs)).getD 14 0).toNat 0) ((List.take 16 (dropO ((r - 1).toNat * 16) xs)).getD 1 0))).set (addO (r.toNat * 16) 2) (ixor (tb.getD ((List.take 16 (dropO ((r - 1).toNat * 16) xs)).getD 15 0).toNat 0) ((List.take 16 (dropO ((r - 1).toNat * 16) xs)).getD 2 0))).set (addO (r.toNat * 16) 3) (ixor (tb.getD ((List.take 16 (dropO ((r - 1).toNat * 16) xs)).getD 12 0).toNat 0) ((List.take 16 (dropO ((r -
 1).toNat * 16) xs)).getD 3 0))).set (addO (r.toNat * 16) 4) (ixor (ixor (ixor (tb.getD ((List.take 16 (dropO ((r - 1).toNat * 16) xs)).getD 13 0).toNat 0) c) ((List.take 16 (dropO ((r - 1).toNat * 16) xs)).getD 0 0)) ((List.take 16 (dropO ((r - 1).toNat * 16) xs)).getD 4 0))).set (addO (r.toNat * 16) 5) (ixor (ixor (tb.getD ((List.take 16 (dropO ((r - 1).toNat * 16) xs)).getD 14 0).toNat 0)
 ((List.take 16 (dropO ((r - 1).toNat * 16) xs)).getD 1 0)) ((List.take 16 (dropO ((r - 1).toNat * 16) xs)).getD 5 0))).length, .leN 8 (List.take 16 (dropO ((r - 1).toNat * 16) xs)).length, .nn .u8 (ixor (tb.getD ((List.take 16 (dropO ((r - 1).toNat * 16) xs)).getD 12 0).toNat 0) ((List.take 16 (dropO ((r - 1).toNat * 16) xs)).getD 3 0)), .nn .u8 ((List.take 16 (dropO ((r - 1).toNat * 16) xs)).getD
 7 0), .leN (addO (r.toNat * 16) 7 + 1) (((((((xs.set (addO (r.toNat * 16) 0) (ixor (ixor (tb.getD ((List.take 16 (dropO ((r - 1).toNat * 16) xs)).getD 13 0).toNat 0) c) ((List.take 16 (dropO ((r - 1).toNat * 16) xs)).getD 0 0))).set (addO (r.toNat * 16) 1) (ixor (tb.getD ((List.take 16 (dropO ((r - 1).toNat * 16) xs)).getD 14 0).toNat 0) ((List.take 16 (dropO ((r - 1).toNat * 16) xs)).getD 1
 0))).set (addO (r.toNat * 16) 2) (ixor (tb.getD ((List.take 16 (dropO ((r - 1).toNat * 16) xs)).getD 15 0).toNat 0) ((List.take 16 (dropO ((r - 1).toNat * 16) xs)).getD 2 0))).set (addO (r.toNat * 16) 3) (ixor (tb.getD ((List.take 16 (dropO ((r - 1).toNat * 16) xs)).getD 12 0).toNat 0) ((List.take 16 (dropO ((r - 1).toNat * 16) xs)).getD 3 0))).set (addO (r.toNat * 16) 4) (ixor (ixor (ixor (tb.getD
 ((List.take 16 (dropO ((r - 1).toNat * 16) xs)).getD 13 0).toNat 0) c) ((List.take 16 (dropO ((r - 1).toNat * 16) xs)).getD 0 0)) ((List.take 16 (dropO ((r - 1).toNat * 16) xs)).getD 4 0))).set (addO (r.toNat * 16) 5) (ixor (ixor (tb.getD ((List.take 16 (dropO ((r - 1).toNat * 16) xs)).getD 14 0).toNat 0) ((List.take 16 (dropO ((r - 1).toNat * 16) xs)).getD 1 0)) ((List.take 16 (dropO ((r -
 1).toNat * 16) xs)).getD 5 0))).set (addO (r.toNat * 16) 6) (ixor (ixor (tb.getD ((List.take 16 (dropO ((r - 1).toNat * 16) xs)).getD 15 0).toNat 0) ((List.take 16 (dropO ((r - 1).toNat * 16) xs)).getD 2 0)) ((List.take 16 (dropO ((r - 1).toNat * 16) xs)).getD 6 0))).length, .leN 9 (List.take 16 (dropO ((r - 1).toNat * 16) xs)).length, .nn .u8 (ixor (ixor (ixor (tb.getD ((List.take 16 (dropO ((r -
 1).toNat * 16) xs)).getD 13 0).toNat 0) c) ((List.take 16 (dropO ((r - 1).toNat * 16) xs)).getD 0 0)) ((List.take 16 (dropO ((r - 1).toNat * 16) xs)).getD 4 0)), .nn .u8 ((List.take 16 (dropO ((r - 1).toNat * 16) xs)).getD 8 0), .leN (addO (r.toNat * 16) 8 + 1) ((((((((xs.set (addO (r.toNat * 16) 0) (ixor (ixor (tb.getD ((List.take 16 (dropO ((r - 1).toNat * 16) xs)).getD 13 0).toNat 0) c)
 ((List.take 16 (dropO ((r - 1).toNat * 16) xs)).getD 0 0))).set (addO (r.toNat * 16) 1) (ixor (tb.getD ((List.take 16 (dropO ((r - 1).toNat * 16) xs)).getD 14 0).toNat 0) ((List.take 16 (dropO ((r - 1).toNat * 16) xs)).getD 1 0))).set (addO (r.toNat * 16) 2) (ixor (tb.getD ((List.take 16 (dropO ((r - 1).toNat * 16) xs)).getD 15 0).toNat 0) ((List.take 16 (dropO ((r - 1).toNat * 16) xs)).getD 2
 0))).set (addO (r.toNat * 16) 3) (ixor (tb.getD ((List.take 16 (dropO ((r - 1).toNat * 16) xs)).getD 12 0).toNat 0) ((List.take 16 (dropO ((r - 1).toNat * 16) xs)).getD 3 0))).set (addO (r.toNat * 16) 4) (ixor (ixor (ixor (tb.getD ((List.take 16 (dropO ((r - 1).toNat * 16) xs)).getD 13 0).toNat 0) c) ((List.take 16 (dropO ((r - 1).toNat * 16) xs)).getD 0 0)) ((List.take 16 (dropO ((r - 1).toNat *
 16) xs)).getD 4 0))).set (addO (r.toNat * 16) 5) (ixor (ixor (tb.getD ((List.take 16 (dropO ((r - 1).toNat * 16) xs)).getD 14 0).toNat 0) ((List.take 16 (dropO ((r - 1).toNat * 16) xs)).getD 1 0)) ((List.take 16 (dropO ((r - 1).toNat * 16) xs)).getD 5 0))).set (addO (r.toNat * 16) 6) (ixor (ixor (tb.getD ((List.take 16 (dropO ((r - 1).toNat * 16) xs)).getD 15 0).toNat 0) ((List.take 16 (dropO ((r -
 1).toNat * 16) xs)).getD 2 0)) ((List.take 16 (dropO ((r - 1).toNat * 16) xs)).getD 6 0))).set (addO (r.toNat * 16) 7) (ixor (ixor (tb.getD ((List.take 16 (dropO ((r - 1).toNat * 16) xs)).getD 12 0).toNat 0) ((List.take 16 (dropO ((r - 1).toNat * 16) xs)).getD 3 0)) ((List.take 16 (dropO ((r - 1).toNat * 16) xs)).getD 7 0))).length, .leN 10 (List.take 16 (dropO ((r - 1).toNat * 16) xs)).length, .nn
 .u8 (ixor (ixor (tb.getD ((List.take 16 (dropO ((r - 1).toNat * 16) xs)).getD 14 0).toNat 0) ((List.take 16 (dropO ((r - 1).toNat * 16) xs)).getD 1 0)) ((List.take 16 (dropO ((r - 1).toNat * 16) xs)).getD 5 0)), .nn .u8 ((List.take 16 (dropO ((r - 1).toNat * 16) xs)).getD 9 0), .leN (addO (r.toNat * 16) 9 + 1) (((((((((xs.set (addO (r.toNat * 16) 0) (ixor (ixor (tb.getD ((List.take 16 (dropO ((r -
 1).toNat * 16) xs)).getD 13 0).toNat 0) c) ((List.take 16 (dropO ((r - 1).toNat * 16) xs)).getD 0 0))).set (addO (r.toNat * 16) 1) (ixor (tb.getD ((List.take 16 (dropO ((r - 1).toNat * 16) xs)).getD 14 0).toNat 0) ((List.take 16 (dropO ((r - 1).toNat * 16) xs)).getD 1 0))).set (addO (r.toNat * 16) 2) (ixor (tb.getD ((List.take 16 (dropO ((r - 1).toNat * 16) xs)).getD 15 0).toNat 0) ((List.take 16
 (dropO ((r - 1).toNat * 16) xs)).getD 2 0))).set (addO (r.toNat * 16) 3) (ixor (tb.getD ((List.take 16 (dropO ((r - 1).toNat * 16) xs)).getD 12 0).toNat 0) ((List.take 16 (dropO ((r - 1).toNat * 16) xs)).getD 3 0))).set (addO (r.toNat * 16) 4) (ixor (ixor (ixor (tb.getD ((List.take 16 (dropO ((r - 1).toNat * 16) xs)).getD 13 0).toNat 0) c) ((List.take 16 (dropO ((r - 1).toNat * 16) xs)).getD 0 0))
 ((List.take 16 (dropO ((r - 1).toNat * 16) xs)).getD 4 0))).set (addO (r.toNat * 16) 5) (ixor (ixor (tb.getD ((List.take 16 (dropO ((r - 1).toNat * 16) xs)).getD 14 0).toNat 0) ((List.take 16 (dropO ((r - 1).toNat * 16) xs)).getD 1 0)) ((List.take 16 (dropO ((r - 1).toNat * 16) xs)).getD 5 0))).set (addO (r.toNat * 16) 6) (ixor (ixor (tb.getD ((List.take 16 (dropO ((r - 1).toNat * 16) xs)).getD 15
 0).toNat 0) ((List.take 16 (dropO ((r - 1).toNat * 16) xs)).getD 2 0)) ((List.take 16 (dropO ((r - 1).toNat * 16) xs)).getD 6 0))).set (addO (r.toNat * 16) 7) (ixor (ixor (tb.getD ((List.take 16 (dropO ((r - 1).toNat * 16) xs)).getD 12 0).toNat 0) ((List.take 16 (dropO ((r - 1).toNat * 16) xs)).getD 3 0)) ((List.take 16 (dropO ((r - 1).toNat * 16) xs)).getD 7 0))).set (addO (r.toNat * 16) 8) (ixor
 (ixor (ixor (ixor (tb.getD ((List.take 16 (dropO ((r - 1).toNat * 16) xs)).getD 13 0).toNat 0) c) ((List.take 16 (dropO ((r - 1).toNat * 16) xs)).getD 0 0)) ((List.take 16 (dropO ((r - 1).toNat * 16) xs)).getD 4 0)) ((List.take 16 (dropO ((r - 1).toNat * 16) xs)).getD 8 0))).length, .leN 11 (List.take 16 (dropO ((r - 1).toNat * 16) xs)).length, .nn .u8 (ixor (ixor (tb.getD ((List.take 16 (dropO ((r
 - 1).toNat * 16) xs)).getD 15 0).toNat 0) ((List.take 16 (dropO ((r - 1).toNat * 16) xs)).getD 2 0)) ((List.take 16 (dropO ((r - 1).toNat * 16) xs)).getD 6 0)), .nn .u8 ((List.take 16 (dropO ((r - 1).toNat * 16) xs)).getD 10 0), .leN (addO (r.toNat * 16) 10 + 1) ((((((((((xs.set (addO (r.toNat * 16) 0) (ixor (ixor (tb.getD ((List.take 16 (dropO ((r - 1).toNat * 16) xs)).getD 13 0).toNat 0) c)
 ((List.take 16 (dropO ((r - 1).toNat * 16) xs)).getD 0 0))).set (addO (r.toNat * 16) 1) (ixor (tb.getD ((List.take 16 (dropO ((r - 1).toNat * 16) xs)).getD 14 0).toNat 0) ((List.take 16 (dropO ((r - 1).toNat * 16) xs)).getD 1 0))).set (addO (r.toNat * 16) 2) (ixor (tb.getD ((List.take 16 (dropO ((r - 1).toNat * 16) xs)).getD 15 0).toNat 0) ((List.take 16 (dropO ((r - 1).toNat * 16) xs)).getD 2
 0))).set (addO (r.toNat * 16) 3) (ixor (tb.getD ((List.take 16 (dropO ((r - 1).toNat * 16) xs)).getD 12 0).toNat 0) ((List.take 16 (dropO ((r - 1).toNat * 16) xs)).getD 3 0))).set (addO (r.toNat * 16) 4) (ixor (ixor (ixor (tb.getD ((List.take 16 (dropO ((r - 1).toNat * 16) xs)).getD 13 0).toNat 0) c) ((List.take 16 (dropO ((r - 1).toNat * 16) xs)).getD 0 0)) ((List.take 16 (dropO ((r - 1).toNat *
 16) xs)).getD 4 0))).set (addO (r.toNat * 16) 5) (ixor (ixor (tb.getD ((List.take 16 (dropO ((r - 1).toNat * 16) xs)).getD 14 0).toNat 0) ((List.take 16 (dropO ((r - 1).toNat * 16) xs)).getD 1 0)) ((List.take 16 (dropO ((r - 1).toNat * 16) xs)).getD 5 0))).set (addO (r.toNat * 16) 6) (ixor (ixor (tb.getD ((List.take 16 (dropO ((r - 1).toNat * 16) xs)).getD 15 0).toNat 0) ((List.take 16 (dropO ((r -
 1).toNat * 16) xs)).getD 2 0)) ((List.take 16 (dropO ((r - 1).toNat * 16) xs)).getD 6 0))).set (addO (r.toNat * 16) 7) (ixor (ixor (tb.getD ((List.take 16 (dropO ((r - 1).toNat * 16) xs)).getD 12 0).toNat 0) ((List.take 16 (dropO ((r - 1).toNat * 16) xs)).getD 3 0)) ((List.take 16 (dropO ((r - 1).toNat * 16) xs)).getD 7 0))).set (addO (r.toNat * 16) 8) (ixor (ixor (ixor (ixor (tb.getD ((List.take
 16 (dropO ((r - 1).toNat * 16) xs)).getD 13 0).toNat 0) c) ((List.take 16 (dropO ((r - 1).toNat * 16) xs)).getD 0 0)) ((List.take 16 (dropO ((r - 1).toNat * 16) xs)).getD 4 0)) ((List.take 16 (dropO ((r - 1).toNat * 16) xs)).getD 8 0))).set (addO (r.toNat * 16) 9) (ixor (ixor (ixor (tb.getD ((List.take 16 (dropO ((r - 1).toNat * 16) xs)).getD 14 0).toNat 0) ((List.take 16 (dropO ((r - 1).toNat *
 16) xs)).getD 1 0)) ((List.take 16 (dropO ((r - 1).toNat * 16) xs)).getD 5 0)) ((List.take 16 (dropO ((r - 1).toNat * 16) xs)).getD 9 0))).length, .leN 12 (List.take 16 (dropO ((r - 1).toNat * 16) xs)).length, .nn .u8 (ixor (ixor (tb.getD ((List.take 16 (dropO ((r - 1).toNat * 16) xs)).getD 12 0).toNat 0) ((List.take 16 (dropO ((r - 1).toNat * 16) xs)).getD 3 0)) ((List.take 16 (dropO ((r -
 1).toNat * 16) xs)).getD 7 0)), .nn .u8 ((List.take 16 (dropO ((r - 1).toNat * 16) xs)).getD 11 0), .leN (addO (r.toNat * 16) 11 + 1) (((((((((((xs.set (addO (r.toNat * 16) 0) (ixor (ixor (tb.getD ((List.take 16 (dropO ((r - 1).toNat * 16) xs)).getD 13 0).toNat 0) c) ((List.take 16 (dropO ((r - 1).toNat * 16) xs)).getD 0 0))).set (addO (r.toNat * 16) 1) (ixor (tb.getD ((List.take 16 (dropO ((r -
 1).toNat * 16) xs)).getD 14 0).toNat 0) ((List.take 16 (dropO ((r - 1).toNat * 16) xs)).getD 1 0))).set (addO (r.toNat * 16) 2) (ixor (tb.getD ((List.take 16 (dropO ((r - 1).toNat * 16) xs)).getD 15 0).toNat 0) ((List.take 16 (dropO ((r - 1).toNat * 16) xs)).getD 2 0))).set (addO (r.toNat * 16) 3) (ixor (tb.getD ((List.take 16 (dropO ((r - 1).toNat * 16) xs)).getD 12 0).toNat 0) ((List.take 16
 (dropO ((r - 1).toNat * 16) xs)).getD 3 0))).set (addO (r.toNat * 16) 4) (ixor (ixor (ixor (tb.getD ((List.take 16 (dropO ((r - 1).toNat * 16) xs)).getD 13 0).toNat 0) c) ((List.take 16 (dropO ((r - 1).toNat * 16) xs)).getD 0 0)) ((List.take 16 (dropO ((r - 1).toNat * 16) xs)).getD 4 0))).set (addO (r.toNat * 16) 5) (ixor (ixor (tb.getD ((List.take 16 (dropO ((r - 1).toNat * 16) xs)).getD 14
 0).toNat 0) ((List.take 16 (dropO ((r - 1).toNat * 16) xs)).getD 1 0)) ((List.take 16 (dropO ((r - 1).toNat * 16) xs)).getD 5 0))).set (addO (r.toNat * 16) 6) (ixor (ixor (tb.getD ((List.take 16 (dropO ((r - 1).toNat * 16) xs)).getD 15 0).toNat 0) ((List.take 16 (dropO ((r - 1).toNat * 16) xs)).getD 2 0)) ((List.take 16 (dropO ((r - 1).toNat * 16) xs)).getD 6 0))).set (addO (r.toNat * 16) 7) (ixor
 (ixor (tb.getD ((List.take 16 (dropO ((r - 1).toNat * 16) xs)).getD 12 0).toNat 0) ((List.take 16 (dropO ((r - 1).toNat * 16) xs)).getD 3 0)) ((List.take 16 (dropO ((r - 1).toNat * 16) xs)).getD 7 0))).set (addO (r.toNat * 16) 8) (ixor (ixor (ixor (ixor (tb.getD ((List.take 16 (dropO ((r - 1).toNat * 16) xs)).getD 13 0).toNat 0) c) ((List.take 16 (dropO ((r - 1).toNat * 16) xs)).getD 0 0))
 ((List.take 16 (dropO ((r - 1).toNat * 16) xs)).getD 4 0)) ((List.take 16 (dropO ((r - 1).toNat * 16) xs)).getD 8 0))).set (addO (r.toNat * 16) 9) (ixor (ixor (ixor (tb.getD ((List.take 16 (dropO ((r - 1).toNat * 16) xs)).getD 14 0).toNat 0) ((List.take 16 (dropO ((r - 1).toNat * 16) xs)).getD 1 0)) ((List.take 16 (dropO ((r - 1).toNat * 16) xs)).getD 5 0)) ((List.take 16 (dropO ((r - 1).toNat *
 16) xs)).getD 9 0))).set (addO (r.toNat * 16) 10) (ixor (ixor (ixor (tb.getD ((List.take 16 (dropO ((r - 1).toNat * 16) xs)).getD 15 0).toNat 0) ((List.take 16 (dropO ((r - 1).toNat * 16) xs)).getD 2 0)) ((List.take 16 (dropO ((r - 1).toNat * 16) xs)).getD 6 0)) ((List.take 16 (dropO ((r - 1).toNat * 16) xs)).getD 10 0))).length, .leN 13 (List.take 16 (dropO ((r - 1).toNat * 16) xs)).length, .nn
 .u8 (ixor (ixor (ixor (ixor (tb.getD ((List.take 16 (dropO ((r - 1).toNat * 16) xs)).getD 13 0).toNat 0) c) ((List.take 16 (dropO ((r - 1).toNat * 16) xs)).getD 0 0)) ((List.take 16 (dropO ((r - 1).toNat * 16) xs)).getD 4 0)) ((List.take 16 (dropO ((r - 1).toNat * 16) xs)).getD 8 0)), .nn .u8 ((List.take 16 (dropO ((r - 1).toNat * 16) xs)).getD 12 0), .leN (addO (r.toNat * 16) 12 + 1)
 ((((((((((((xs.set (addO (r.toNat * 16) 0) (ixor (ixor (tb.getD ((List.take 16 (dropO ((r - 1).toNat * 16) xs)).getD 13 0).toNat 0) c) ((List.take 16 (dropO ((r - 1).toNat * 16) xs)).getD 0 0))).set (addO (r.toNat * 16) 1) (ixor (tb.getD ((List.take 16 (dropO ((r - 1).toNat * 16) xs)).getD 14 0).toNat 0) ((List.take 16 (dropO ((r - 1).toNat * 16) xs)).getD 1 0))).set (addO (r.toNat * 16) 2) (ixor
 (tb.getD ((List.take 16 (dropO ((r - 1).toNat * 16) xs)).getD 15 0).toNat 0) ((List.take 16 (dropO ((r - 1).toNat * 16) xs)).getD 2 0))).set (addO (r.toNat * 16) 3) (ixor (tb.getD ((List.take 16 (dropO ((r - 1).toNat * 16) xs)).getD 12 0).toNat 0) ((List.take 16 (dropO ((r - 1).toNat * 16) xs)).getD 3 0))).set (addO (r.toNat * 16) 4) (ixor (ixor (ixor (tb.getD ((List.take 16 (dropO ((r - 1).toNat *
 16) xs)).getD 13 0).toNat 0) c) ((List.take 16 (dropO ((r - 1).toNat * 16) xs)).getD 0 0)) ((List.take 16 (dropO ((r - 1).toNat * 16) xs)).getD 4 0))).set (addO (r.toNat * 16) 5) (ixor (ixor (tb.getD ((List.take 16 (dropO ((r - 1).toNat * 16) xs)).getD 14 0).toNat 0) ((List.take 16 (dropO ((r - 1).toNat * 16) xs)).getD 1 0)) ((List.take 16 (dropO ((r - 1).toNat * 16) xs)).getD 5 0))).set (addO
 (r.toNat * 16) 6) (ixor (ixor (tb.getD ((List.take 16 (dropO ((r - 1).toNat * 16) xs)).getD 15 0).toNat 0) ((List.take 16 (dropO ((r - 1).toNat * 16) xs)).getD 2 0)) ((List.take 16 (dropO ((r - 1).toNat * 16) xs)).getD 6 0))).set (addO (r.toNat * 16) 7) (ixor (ixor (tb.getD ((List.take 16 (dropO ((r - 1).toNat * 16) xs)).getD 12 0).toNat 0) ((List.take 16 (dropO ((r - 1).toNat * 16) xs)).getD 3 0))
 ((List.take 16 (dropO ((r - 1).toNat * 16) xs)).getD 7 0))).set (addO (r.toNat * 16) 8) (ixor (ixor (ixor (ixor (tb.getD ((List.take 16 (dropO ((r - 1).toNat * 16) xs)).getD 13 0).toNat 0) c) ((List.take 16 (dropO ((r - 1).toNat * 16) xs)).getD 0 0)) ((List.take 16 (dropO ((r - 1).toNat * 16) xs)).getD 4 0)) ((List.take 16 (dropO ((r - 1).toNat * 16) xs)).getD 8 0))).set (addO (r.toNat * 16) 9)
 (ixor (ixor (ixor (tb.getD ((List.take 16 (dropO ((r - 1).toNat * 16) xs)).getD 14 0).toNat 0) ((List.take 16 (dropO ((r - 1).toNat * 16) xs)).getD 1 0)) ((List.take 16 (dropO ((r - 1).toNat * 16) xs)).getD 5 0)) ((List.take 16 (dropO ((r - 1).toNat * 16) xs)).getD 9 0))).set (addO (r.toNat * 16) 10) (ixor (ixor (ixor (tb.getD ((List.take 16 (dropO ((r - 1).toNat * 16) xs)).getD 15 0).toNat 0)
 ((List.take 16 (dropO ((r - 1).toNat * 16) xs)).getD 2 0)) ((List.take 16 (dropO ((r - 1).toNat * 16) xs)).getD 6 0)) ((List.take 16 (dropO ((r - 1).toNat * 16) xs)).getD 10 0))).set (addO (r.toNat * 16) 11) (ixor (ixor (ixor (tb.getD ((List.take 16 (dropO ((r - 1).toNat * 16) xs)).getD 12 0).toNat 0) ((List.take 16 (dropO ((r - 1).toNat * 16) xs)).getD 3 0)) ((List.take 16 (dropO ((r - 1).toNat *
 16) xs)).getD 7 0)) ((List.take 16 (dropO ((r - 1).toNat * 16) xs)).getD 11 0))).length, .leN 14 (List.take 16 (dropO ((r - 1).toNat * 16) xs)).length, .nn .u8 (ixor (ixor (ixor (tb.getD ((List.take 16 (dropO ((r - 1).toNat * 16) xs)).getD 14 0).toNat 0) ((List.take 16 (dropO ((r - 1).toNat * 16) xs)).getD 1 0)) ((List.take 16 (dropO ((r - 1).toNat * 16) xs)).getD 5 0)) ((List.take 16 (dropO ((r -
 1).toNat * 16) xs)).getD 9 0)), .nn .u8 ((List.take 16 (dropO ((r - 1).toNat * 16) xs)).getD 13 0), .leN (addO (r.toNat * 16) 13 + 1) (((((((((((((xs.set (addO (r.toNat * 16) 0) (ixor (ixor (tb.getD ((List.take 16 (dropO ((r - 1).toNat * 16) xs)).getD 13 0).toNat 0) c) ((List.take 16 (dropO ((r - 1).toNat * 16) xs)).getD 0 0))).set (addO (r.toNat * 16) 1) (ixor (tb.getD ((List.take 16 (dropO ((r -
 1).toNat * 16) xs)).getD 14 0).toNat 0) ((List.take 16 (dropO ((r - 1).toNat * 16) xs)).getD 1 0))).set (addO (r.toNat * 16) 2) (ixor (tb.getD ((List.take 16 (dropO ((r - 1).toNat * 16) xs)).getD 15 0).toNat 0) ((List.take 16 (dropO ((r - 1).toNat * 16) xs)).getD 2 0))).set (addO (r.toNat * 16) 3) (ixor (tb.getD ((List.take 16 (dropO ((r - 1).toNat * 16) xs)).getD 12 0).toNat 0) ((List.take 16
 (dropO ((r - 1).toNat * 16) xs)).getD 3 0))).set (addO (r.toNat * 16) 4) (ixor (ixor (ixor (tb.getD ((List.take 16 (dropO ((r - 1).toNat * 16) xs)).getD 13 0).toNat 0) c) ((List.take 16 (dropO ((r - 1).toNat * 16) xs)).getD 0 0)) ((List.take 16 (dropO ((r - 1).toNat * 16) xs)).getD 4 0))).set (addO (r.toNat * 16) 5) (ixor (ixor (tb.getD ((List.take 16 (dropO ((r - 1).toNat * 16) xs)).getD 14
 0).toNat 0) ((List.take 16 (dropO ((r - 1).toNat * 16) xs)).getD 1 0)) ((List.take 16 (dropO ((r - 1).toNat * 16) xs)).getD 5 0))).set (addO (r.toNat * 16) 6) (ixor (ixor (tb.getD ((List.take 16 (dropO ((r - 1).toNat * 16) xs)).getD 15 0).toNat 0) ((List.take 16 (dropO ((r - 1).toNat * 16) xs)).getD 2 0)) ((List.take 16 (dropO ((r - 1).toNat * 16) xs)).getD 6 0))).set (addO (r.toNat * 16) 7) (ixor
 (ixor (tb.getD ((List.take 16 (dropO ((r - 1).toNat * 16) xs)).getD 12 0).toNat 0) ((List.take 16 (dropO ((r - 1).toNat * 16) xs)).getD 3 0)) ((List.take 16 (dropO ((r - 1).toNat * 16) xs)).getD 7 0))).set (addO (r.toNat * 16) 8) (ixor (ixor (ixor (ixor (tb.getD ((List.take 16 (dropO ((r - 1).toNat * 16) xs)).getD 13 0).toNat 0) c) ((List.take 16 (dropO ((r - 1).toNat * 16) xs)).getD 0 0))
 ((List.take 16 (dropO ((r - 1).toNat * 16) xs)).getD 4 0)) ((List.take 16 (dropO ((r - 1).toNat * 16) xs)).getD 8 0))).set (addO (r.toNat * 16) 9) (ixor (ixor (ixor (tb.getD ((List.take 16 (dropO ((r - 1).toNat * 16) xs)).getD 14 0).toNat 0) ((List.take 16 (dropO ((r - 1).toNat * 16) xs)).getD 1 0)) ((List.take 16 (dropO ((r - 1).toNat * 16) xs)).getD 5 0)) ((List.take 16 (dropO ((r - 1).toNat *
 16) xs)).getD 9 0))).set (addO (r.toNat * 16) 10) (ixor (ixor (ixor (tb.getD ((List.take 16 (dropO ((r - 1).toNat * 16) xs)).getD 15 0).toNat 0) ((List.take 16 (dropO ((r - 1).toNat * 16) xs)).getD 2 0)) ((List.take 16 (dropO ((r - 1).toNat * 16) xs)).getD 6 0)) ((List.take 16 (dropO ((r - 1).toNat * 16) xs)).getD 10 0))).set (addO (r.toNat * 16) 11) (ixor (ixor (ixor (tb.getD ((List.take 16 (dropO
 ((r - 1).toNat * 16) xs)).getD 12 0).toNat 0) ((List.take 16 (dropO ((r - 1).toNat * 16) xs)).getD 3 0)) ((List.take 16 (dropO ((r - 1).toNat * 16) xs)).getD 7 0)) ((List.take 16 (dropO ((r - 1).toNat * 16) xs)).getD 11 0))).set (addO (r.toNat * 16) 12) (ixor (ixor (ixor (ixor (ixor (tb.getD ((List.take 16 (dropO ((r - 1).toNat * 16) xs)).getD 13 0).toNat 0) c) ((List.take 16 (dropO ((r - 1).toNat
 * 16) xs)).getD 0 0)) ((List.take 16 (dropO ((r - 1).toNat * 16) xs)).getD 4 0)) ((List.take 16 (dropO ((r - 1).toNat * 16) xs)).getD 8 0)) ((List.take 16 (dropO ((r - 1).toNat * 16) xs)).getD 12 0))).length, .leN 15 (List.take 16 (dropO ((r - 1).toNat * 16) xs)).length, .nn .u8 (ixor (ixor (ixor (tb.getD ((List.take 16 (dropO ((r - 1).toNat * 16) xs)).getD 15 0).toNat 0) ((List.take 16 (dropO ((r
 - 1).toNat * 16) xs)).getD 2 0)) ((List.take 16 (dropO ((r - 1).toNat * 16) xs)).getD 6 0)) ((List.take 16 (dropO ((r - 1).toNat * 16) xs)).getD 10 0)), .nn .u8 ((List.take 16 (dropO ((r - 1).toNat * 16) xs)).getD 14 0), .leN (addO (r.toNat * 16) 14 + 1) ((((((((((((((xs.set (addO (r.toNat * 16) 0) (ixor (ixor (tb.getD ((List.take 16 (dropO ((r - 1).toNat * 16) xs)).getD 13 0).toNat 0) c)
 ((List.take 16 (dropO ((r - 1).toNat * 16) xs)).getD 0 0))).set (addO (r.toNat * 16) 1) (ixor (tb.getD ((List.take 16 (dropO ((r - 1).toNat * 16) xs)).getD 14 0).toNat 0) ((List.take 16 (dropO ((r - 1).toNat * 16) xs)).getD 1 0))).set (addO (r.toNat * 16) 2) (ixor (tb.getD ((List.take 16 (dropO ((r - 1).toNat * 16) xs)).getD 15 0).toNat 0) ((List.take 16 (dropO ((r - 1).toNat * 16) xs)).getD 2
 0))).set (addO (r.toNat * 16) 3) (ixor (tb.getD ((List.take 16 (dropO ((r - 1).toNat * 16) xs)).getD 12 0).toNat 0) ((List.take 16 (dropO ((r - 1).toNat * 16) xs)).getD 3 0))).set (addO (r.toNat * 16) 4) (ixor (ixor (ixor (tb.getD ((List.take 16 (dropO ((r - 1).toNat * 16) xs)).getD 13 0).toNat 0) c) ((List.take 16 (dropO ((r - 1).toNat * 16) xs)).getD 0 0)) ((List.take 16 (dropO ((r - 1).toNat *
 16) xs)).getD 4 0))).set (addO (r.toNat * 16) 5) (ixor (ixor (tb.getD ((List.take 16 (dropO ((r - 1).toNat * 16) xs)).getD 14 0).toNat 0) ((List.take 16 (dropO ((r - 1).toNat * 16) xs)).getD 1 0)) ((List.take 16 (dropO ((r - 1).toNat * 16) xs)).getD 5 0))).set (addO (r.toNat * 16) 6) (ixor (ixor (tb.getD ((List.take 16 (dropO ((r - 1).toNat * 16) xs)).getD 15 0).toNat 0) ((List.take 16 (dropO ((r -
 1).toNat * 16) xs)).getD 2 0)) ((List.take 16 (dropO ((r - 1).toNat * 16) xs)).getD 6 0))).set (addO (r.toNat * 16) 7) (ixor (ixor (tb.getD ((List.take 16 (dropO ((r - 1).toNat * 16) xs)).getD 12 0).toNat 0) ((List.take 16 (dropO ((r - 1).toNat * 16) xs)).getD 3 0)) ((List.take 16 (dropO ((r - 1).toNat * 16) xs)).getD 7 0))).set (addO (r.toNat * 16) 8) (ixor (ixor (ixor (ixor (tb.getD ((List.take
 16 (dropO ((r - 1).toNat * 16) xs)).getD 13 0).toNat 0) c) ((List.take 16 (dropO ((r - 1).toNat * 16) xs)).getD 0 0)) ((List.take 16 (dropO ((r - 1).toNat * 16) xs)).getD 4 0)) ((List.take 16 (dropO ((r - 1).toNat * 16) xs)).getD 8 0))).set (addO (r.toNat * 16) 9) (ixor (ixor (ixor (tb.getD ((List.take 16 (dropO ((r - 1).toNat * 16) xs)).getD 14 0).toNat 0) ((List.take 16 (dropO ((r - 1).toNat *
 16) xs)).getD 1 0)) ((List.take 16 (dropO ((r - 1).toNat * 16) xs)).getD 5 0)) ((List.take 16 (dropO ((r - 1).toNat * 16) xs)).getD 9 0))).set (addO (r.toNat * 16) 10) (ixor (ixor (ixor (tb.getD ((List.take 16 (dropO ((r - 1).toNat * 16) xs)).getD 15 0).toNat 0) ((List.take 16 (dropO ((r - 1).toNat * 16) xs)).getD 2 0)) ((List.take 16 (dropO ((r - 1).toNat * 16) xs)).getD 6 0)) ((List.take 16
 (dropO ((r - 1).toNat * 16) xs)).getD 10 0))).set (addO (r.toNat * 16) 11) (ixor (ixor (ixor (tb.getD ((List.take 16 (dropO ((r - 1).toNat * 16) xs)).getD 12 0).toNat 0) ((List.take 16 (dropO ((r - 1).toNat * 16) xs)).getD 3 0)) ((List.take 16 (dropO ((r - 1).toNat * 16) xs)).getD 7 0)) ((List.take 16 (dropO ((r - 1).toNat * 16) xs)).getD 11 0))).set (addO (r.toNat * 16) 12) (ixor (ixor (ixor (ixor
 (ixor (tb.getD ((List.take 16 (dropO ((r - 1).toNat * 16) xs)).getD 13 0).toNat 0) c) ((List.take 16 (dropO ((r - 1).toNat * 16) xs)).getD 0 0)) ((List.take 16 (dropO ((r - 1).toNat * 16) xs)).getD 4 0)) ((List.take 16 (dropO ((r - 1).toNat * 16) xs)).getD 8 0)) ((List.take 16 (dropO ((r - 1).toNat * 16) xs)).getD 12 0))).set (addO (r.toNat * 16) 13) (ixor (ixor (ixor (ixor (tb.getD ((List.take 16
 (dropO ((r - 1).toNat * 16) xs)).getD 14 0).toNat 0) ((List.take 16 (dropO ((r - 1).toNat * 16) xs)).getD 1 0)) ((List.take 16 (dropO ((r - 1).toNat * 16) xs)).getD 5 0)) ((List.take 16 (dropO ((r - 1).toNat * 16) xs)).getD 9 0)) ((List.take 16 (dropO ((r - 1).toNat * 16) xs)).getD 13 0))).length, .leN 16 (List.take 16 (dropO ((r - 1).toNat * 16) xs)).length, .nn .u8 (ixor (ixor (ixor (tb.getD
 ((List.take 16 (dropO ((r - 1).toNat * 16) xs)).getD 12 0).toNat 0) ((List.take 16 (dropO ((r - 1).toNat * 16) xs)).getD 3 0)) ((List.take 16 (dropO ((r - 1).toNat * 16) xs)).getD 7 0)) ((List.take 16 (dropO ((r - 1).toNat * 16) xs)).getD 11 0)), .nn .u8 ((List.take 16 (dropO ((r - 1).toNat * 16) xs)).getD 15 0), .leN (addO (r.toNat * 16) 15 + 1) (((((((((((((((xs.set (addO (r.toNat * 16) 0) (ixor
 (ixor (tb.getD ((List.take 16 (dropO ((r - 1).toNat * 16) xs)).getD 13 0).toNat 0) c) ((List.take 16 (dropO ((r - 1).toNat * 16) xs)).getD 0 0))).set (addO (r.toNat * 16) 1) (ixor (tb.getD ((List.take 16 (dropO ((r - 1).toNat * 16) xs)).getD 14 0).toNat 0) ((List.take 16 (dropO ((r - 1).toNat * 16) xs)).getD 1 0))).set (addO (r.toNat * 16) 2) (ixor (tb.getD ((List.take 16 (dropO ((r - 1).toNat *
 16) xs)).getD 15 0).toNat 0) ((List.take 16 (dropO ((r - 1).toNat * 16) xs)).getD 2 0))).set (addO (r.toNat * 16) 3) (ixor (tb.getD ((List.take 16 (dropO ((r - 1).toNat * 16) xs)).getD 12 0).toNat 0) ((List.take 16 (dropO ((r - 1).toNat * 16) xs)).getD 3 0))).set (addO (r.toNat * 16) 4) (ixor (ixor (ixor (tb.getD ((List.take 16 (dropO ((r - 1).toNat * 16) xs)).getD 13 0).toNat 0) c) ((List.take 16
 (dropO ((r - 1).toNat * 16) xs)).getD 0 0)) ((List.take 16 (dropO ((r - 1).toNat * 16) xs)).getD 4 0))).set (addO (r.toNat * 16) 5) (ixor (ixor (tb.getD ((List.take 16 (dropO ((r - 1).toNat * 16) xs)).getD 14 0).toNat 0) ((List.take 16 (dropO ((r - 1).toNat * 16) xs)).getD 1 0)) ((List.take 16 (dropO ((r - 1).toNat * 16) xs)).getD 5 0))).set (addO (r.toNat * 16) 6) (ixor (ixor (tb.getD ((List.take
 16 (dropO ((r - 1).toNat * 16) xs)).getD 15 0).toNat 0) ((List.take 16 (dropO ((r - 1).toNat * 16) xs)).getD 2 0)) ((List.take 16 (dropO ((r - 1).toNat * 16) xs)).getD 6 0))).set (addO (r.toNat * 16) 7) (ixor (ixor (tb.getD ((List.take 16 (dropO ((r - 1).toNat * 16) xs)).getD 12 0).toNat 0) ((List.take 16 (dropO ((r - 1).toNat * 16) xs)).getD 3 0)) ((List.take 16 (dropO ((r - 1).toNat * 16)
 xs)).getD 7 0))).set (addO (r.toNat * 16) 8) (ixor (ixor (ixor (ixor (tb.getD ((List.take 16 (dropO ((r - 1).toNat * 16) xs)).getD 13 0).toNat 0) c) ((List.take 16 (dropO ((r - 1).toNat * 16) xs)).getD 0 0)) ((List.take 16 (dropO ((r - 1).toNat * 16) xs)).getD 4 0)) ((List.take 16 (dropO ((r - 1).toNat * 16) xs)).getD 8 0))).set (addO (r.toNat * 16) 9) (ixor (ixor (ixor (tb.getD ((List.take 16
 (dropO ((r - 1).toNat * 16) xs)).getD 14 0).toNat 0) ((List.take 16 (dropO ((r - 1).toNat * 16) xs)).getD 1 0)) ((List.take 16 (dropO ((r - 1).toNat * 16) xs)).getD 5 0)) ((List.take 16 (dropO ((r - 1).toNat * 16) xs)).getD 9 0))).set (addO (r.toNat * 16) 10) (ixor (ixor (ixor (tb.getD ((List.take 16 (dropO ((r - 1).toNat * 16) xs)).getD 15 0).toNat 0) ((List.take 16 (dropO ((r - 1).toNat * 16)
 xs)).getD 2 0)) ((List.take 16 (dropO ((r - 1).toNat * 16) xs)).getD 6 0)) ((List.take 16 (dropO ((r - 1).toNat * 16) xs)).getD 10 0))).set (addO (r.toNat * 16) 11) (ixor (ixor (ixor (tb.getD ((List.take 16 (dropO ((r - 1).toNat * 16) xs)).getD 12 0).toNat 0) ((List.take 16 (dropO ((r - 1).toNat * 16) xs)).getD 3 0)) ((List.take 16 (dropO ((r - 1).toNat * 16) xs)).getD 7 0)) ((List.take 16 (dropO
 ((r - 1).toNat * 16) xs)).getD 11 0))).set (addO (r.toNat * 16) 12) (ixor (ixor (ixor (ixor (ixor (tb.getD ((List.take 16 (dropO ((r - 1).toNat * 16) xs)).getD 13 0).toNat 0) c) ((List.take 16 (dropO ((r - 1).toNat * 16) xs)).getD 0 0)) ((List.take 16 (dropO ((r - 1).toNat * 16) xs)).getD 4 0)) ((List.take 16 (dropO ((r - 1).toNat * 16) xs)).getD 8 0)) ((List.take 16 (dropO ((r - 1).toNat * 16)
 xs)).getD 12 0))).set (addO (r.toNat * 16) 13) (ixor (ixor (ixor (ixor (tb.getD ((List.take 16 (dropO ((r - 1).toNat * 16) xs)).getD 14 0).toNat 0) ((List.take 16 (dropO ((r - 1).toNat * 16) xs)).getD 1 0)) ((List.take 16 (dropO ((r - 1).toNat * 16) xs)).getD 5 0)) ((List.take 16 (dropO ((r - 1).toNat * 16) xs)).getD 9 0)) ((List.take 16 (dropO ((r - 1).toNat * 16) xs)).getD 13 0))).set (addO
 (r.toNat * 16) 14) (ixor (ixor (ixor (ixor (tb.getD ((List.take 16 (dropO ((r - 1).toNat * 16) xs)).getD 15 0).toNat 0) ((List.take 16 (dropO ((r - 1).toNat * 16) xs)).getD 2 0)) ((List.take 16 (dropO ((r - 1).toNat * 16) xs)).getD 6 0)) ((List.take 16 (dropO ((r - 1).toNat * 16) xs)).getD 10 0)) ((List.take 16 (dropO ((r - 1).toNat * 16) xs)).getD 14 0))).length, .rng (-9223372036854775808) (r +
 1) 9223372036854775807]) : Ok (A41 r c xs zz ks tb g g' ow ow') := Ok.dem (fl := bitsF 713 14812295567995266859423041344952596858401985959682369762493437951653479193757422048755422786416496241533285720733306597543463263459216842035988486915263449196586197811220946843653630343125549520209556578459044169824) (by kernel_rfl) (by kernel_rfl) (by kernel_rfl) h
theorem A41_ex {r c : Int} {xs zz ks tb : List Int} {g g' : Nat} {ow ow' : Bool} : (A41 r c xs zz ks tb g g' ow ow').ex = .normal := by kernel_rfl
theorem A41_fm {r c : Int} {xs zz ks tb : List Int} {g g' : Nat} {ow ow' : Bool} : (A41 r c xs zz ks tb g g' ow ow').fm = [(0, .var 0 g), (4, .var 2 0), (5, .var 3 0), (6, .int .u8 (dblLaw c)), (7, .int .i64 (r + 1))] := by kernel_rfl
theorem A41_tab {r c : Int} {xs zz ks tb : List Int} {g g' : Nat} {ow ow' : Bool} : (A41 r c xs zz ks tb g g' ow ow').tab = [some ⟨.ints .u8 tb, g, ow, 72⟩, some ⟨.ints .u8 ks, g', ow', 5⟩, some ⟨.ints .u8 zz, 0, true, 49⟩, some ⟨.ints .u8 ((((((((((((((((xs.set (addO (r.toNat * 16) 0) (ixor (ixor (tb.getD ((List.take 16 (dropO ((r - 1).toNat * 16) xs)).getD 13 0).toNat 0) c) ((List.take 16 (dropO
 ((r - 1).toNat * 16) xs)).getD 0 0))).set (addO (r.toNat * 16) 1) (ixor (tb.getD ((List.take 16 (dropO ((r - 1).toNat * 16) xs)).getD 14 0).toNat 0) ((List.take 16 (dropO ((r - 1).toNat * 16) xs)).getD 1 0))).set (addO (r.toNat * 16) 2) (ixor (tb.getD ((List.take 16 (dropO ((r - 1).toNat * 16) xs)).getD 15 0).toNat 0) ((List.take 16 (dropO ((r - 1).toNat * 16) xs)).getD 2 0))).set (addO (r.toNat *
 16) 3) (ixor (tb.getD ((List.take 16 (dropO ((r - 1).toNat * 16) xs)).getD 12 0).toNat 0) ((List.take 16 (dropO ((r - 1).toNat * 16) xs)).getD 3 0))).set (addO (r.toNat * 16) 4) (ixor (ixor (ixor (tb.getD ((List.take 16 (dropO ((r - 1).toNat * 16) xs)).getD 13 0).toNat 0) c) ((List.take 16 (dropO ((r - 1).toNat * 16) xs)).getD 0 0)) ((List.take 16 (dropO ((r - 1).toNat * 16) xs)).getD 4 0))).set
 (addO (r.toNat * 16) 5) (ixor (ixor (tb.getD ((List.take 16 (dropO ((r - 1).toNat * 16) xs)).getD 14 0).toNat 0) ((List.take 16 (dropO ((r - 1).toNat * 16) xs)).getD 1 0)) ((List.take 16 (dropO ((r - 1).toNat * 16) xs)).getD 5 0))).set (addO (r.toNat * 16) 6) (ixor (ixor (tb.getD ((List.take 16 (dropO ((r - 1).toNat * 16) xs)).getD 15 0).toNat 0) ((List.take 16 (dropO ((r - 1).toNat * 16) xs)).getD
 2 0)) ((List.take 16 (dropO ((r - 1).toNat * 16) xs)).getD 6 0))).set (addO (r.toNat * 16) 7) (ixor (ixor (tb.getD ((List.take 16 (dropO ((r - 1).toNat * 16) xs)).getD 12 0).toNat 0) ((List.take 16 (dropO ((r - 1).toNat * 16) xs)).getD 3 0)) ((List.take 16 (dropO ((r - 1).toNat * 16) xs)).getD 7 0))).set (addO (r.toNat * 16) 8) (ixor (ixor (ixor (ixor (tb.getD ((List.take 16 (dropO ((r - 1).toNat *
 16) xs)).getD 13 0).toNat 0) c) ((List.take 16 (dropO ((r - 1).toNat * 16) xs)).getD 0 0)) ((List.take 16 (dropO ((r - 1).toNat * 16) xs)).getD 4 0)) ((List.take 16 (dropO ((r - 1).toNat * 16) xs)).getD 8 0))).set (addO (r.toNat * 16) 9) (ixor (ixor (ixor (tb.getD ((List.take 16 (dropO ((r - 1).toNat * 16) xs)).getD 14 0).toNat 0) ((List.take 16 (dropO ((r - 1).toNat * 16) xs)).getD 1 0))
 ((List.take 16 (dropO ((r - 1).toNat * 16) xs)).getD 5 0)) ((List.take 16 (dropO ((r - 1).toNat * 16) xs)).getD 9 0))).set (addO (r.toNat * 16) 10) (ixor (ixor (ixor (tb.getD ((List.take 16 (dropO ((r - 1).toNat * 16) xs)).getD 15 0).toNat 0) ((List.take 16 (dropO ((r - 1).toNat * 16) xs)).getD 2 0)) ((List.take 16 (dropO ((r - 1).toNat * 16) xs)).getD 6 0)) ((List.take 16 (dropO ((r - 1).toNat *
 16) xs)).getD 10 0))).set (addO (r.toNat * 16) 11) (ixor (ixor (ixor (tb.getD ((List.take 16 (dropO ((r - 1).toNat * 16) xs)).getD 12 0).toNat 0) ((List.take 16 (dropO ((r - 1).toNat * 16) xs)).getD 3 0)) ((List.take 16 (dropO ((r - 1).toNat * 16) xs)).getD 7 0)) ((List.take 16 (dropO ((r - 1).toNat * 16) xs)).getD 11 0))).set (addO (r.toNat * 16) 12) (ixor (ixor (ixor (ixor (ixor (tb.getD
 ((List.take 16 (dropO ((r - 1).toNat * 16) xs)).getD 13 0).toNat 0) c) ((List.take 16 (dropO ((r - 1).toNat * 16) xs)).getD 0 0)) ((List.take 16 (dropO ((r - 1).toNat * 16) xs)).getD 4 0)) ((List.take 16 (dropO ((r - 1).toNat * 16) xs)).getD 8 0)) ((List.take 16 (dropO ((r - 1).toNat * 16) xs)).getD 12 0))).set (addO (r.toNat * 16) 13) (ixor (ixor (ixor (ixor (tb.getD ((List.take 16 (dropO ((r -
 1).toNat * 16) xs)).getD 14 0).toNat 0) ((List.take 16 (dropO ((r - 1).toNat * 16) xs)).getD 1 0)) ((List.take 16 (dropO ((r - 1).toNat * 16) xs)).getD 5 0)) ((List.take 16 (dropO ((r - 1).toNat * 16) xs)).getD 9 0)) ((List.take 16 (dropO ((r - 1).toNat * 16) xs)).getD 13 0))).set (addO (r.toNat * 16) 14) (ixor (ixor (ixor (ixor (tb.getD ((List.take 16 (dropO ((r - 1).toNat * 16) xs)).getD 15
 0).toNat 0) ((List.take 16 (dropO ((r - 1).toNat * 16) xs)).getD 2 0)) ((List.take 16 (dropO ((r - 1).toNat * 16) xs)).getD 6 0)) ((List.take 16 (dropO ((r - 1).toNat * 16) xs)).getD 10 0)) ((List.take 16 (dropO ((r - 1).toNat * 16) xs)).getD 14 0))).set (addO (r.toNat * 16) 15) (ixor (ixor (ixor (ixor (tb.getD ((List.take 16 (dropO ((r - 1).toNat * 16) xs)).getD 12 0).toNat 0) ((List.take 16
 (dropO ((r - 1).toNat * 16) xs)).getD 3 0)) ((List.take 16 (dropO ((r - 1).toNat * 16) xs)).getD 7 0)) ((List.take 16 (dropO ((r - 1).toNat * 16) xs)).getD 11 0)) ((List.take 16 (dropO ((r - 1).toNat * 16) xs)).getD 15 0))), 0, true, 49⟩] := by kernel_rfl
noncomputable def B41 (r c : Int) (xs zz ks tb : List Int) (g g' : Nat) (ow ow' : Bool) : Out := trim 4 4 [4,5] (run eH 81 ⟨4, []⟩ 400 (roundOf 0 f41) [(0, .var 0 g), (4, .var 2 0), (5, .var 3 0), (6, .int .u8 c), (7, .int .i64 r)] [some ⟨.ints .u8 tb, g, ow, 72⟩, some ⟨.ints .u8 ks, g', ow', 5⟩, some ⟨.ints .u8 zz, 0, true, 49⟩, some ⟨.ints .u8 xs, 0, true, 49⟩] [some false])
theorem B41_ok {r c : Int} {xs zz ks tb : List Int} {g g' : Nat} {ow ow' : Bool} (h : allP [.p (decide (r < 11) = false)]) : Ok (B41 r c xs zz ks tb g g' ow ow') := Ok.dem (fl := [false]) (by kernel_rfl) (by kernel_rfl) (by kernel_rfl) h
theorem B41_ex {r c : Int} {xs zz ks tb : List Int} {g g' : Nat} {ow ow' : Bool} : (B41 r c xs zz ks tb g g' ow ow').ex = .exit 0 := by kernel_rfl
theorem B41_fm {r c : Int} {xs zz ks tb : List Int} {g g' : Nat} {ow ow' : Bool} : (B41 r c xs zz ks tb g g' ow ow').fm = [(4, .var 2 0), (5, .var 3 0)] := by kernel_rfl
theorem B41_tab {r c : Int} {xs zz ks tb : List Int} {g g' : Nat} {ow ow' : Bool} : (B41 r c xs zz ks tb g g' ow ow').tab = [some ⟨.ints .u8 tb, g, ow, 72⟩, some ⟨.ints .u8 ks, g', ow', 5⟩, some ⟨.ints .u8 zz, 0, true, 49⟩, some ⟨.ints .u8 xs, 0, true, 49⟩] := by kernel_rfl
def F41 (g : Nat) (i : Nat) : Fm := [(0, .var 0 g), (4, .var 2 0), (5, .var 3 0), (6, .int .u8 (rcLaw i)), (7, .int .i64 (i + 1 : Nat))]
def xs41Law (key : List Int) (i : Nat) : List Int := ksLaw key (16 * (i + 1)) ++ List.replicate (176 - 16 * (i + 1)) 0
def T41 (key zz ks : List Int) (g g' : Nat) (ow ow' : Bool) (i : Nat) : Tab := [some ⟨.ints .u8 TABLaw, g, ow, 72⟩, some ⟨.ints .u8 ks, g', ow', 5⟩, some ⟨.ints .u8 zz, 0, true, 49⟩, some ⟨.ints .u8 (xs41Law key i), 0, true, 49⟩]
theorem round41 {key zz ks : List Int} (hk : key.length = 16) (hb : Bytes key) {g g' : Nat} {ow ow' : Bool} {i : Nat} (hi : i < 10) : To eH 81 4 (roundOf 0 f41) (F41 g i) (T41 key zz ks g g' ow ow' i) .normal (F41 g (i + 1)) (T41 key zz ks g g' ow ow' (i + 1)) := by
  have hc := rcLaw_lt i
  have hlen := ksLaw_len hk (n := 16 * (i + 1)) (by omega)
  have hkb := ksLaw_bytes hb (16 * (i + 1))
  have hxl : (xs41Law key i).length = 176 := by simp [xs41Law, hlen]; omega
  have e1 : (((i + 1 : Nat) : Int) - 1).toNat * 16 = 16 * i := by omega
  have els : List.take 16 (dropO (16 * i) (xs41Law key i)) = (ksLaw key (16 * (i + 1))).drop (16 * i) := by
    rw [dropO_eq, xs41Law, List.drop_append_of_le_length (by omega), List.take_append_of_le_length (by simp; omega), List.take_of_length_le (by simp; omega)]
  have hls : ((ksLaw key (16 * (i + 1))).drop (16 * i)).length = 16 := by simp; omega
  have hlb := hkb.drop (16 * i)
  have hnext := ks_next hk (R := i + 1) (by omega)
  rw [show 16 * (i + 1) - 16 = 16 * i by omega, show i + 1 - 1 = i by omega, show 16 * (i + 1) + 16 = 16 * (i + 1 + 1) by omega] at hnext
  refine To.of (o := A41 (i + 1 : Nat) (rcLaw i) (xs41Law key i) zz ks TABLaw g g' ow ow') eH_ok hmA (Nat.le_refl 4) OrcOk.nil rfl (A41_ok ?_) A41_ex ?_ ?_
  · rw [e1, els]
    generalize (ksLaw key (16 * (i + 1))).drop (16 * i) = ls at hls hlb ⊢
    simp only [allP, Con.h, List.length_set, hls, hxl, TABLaw_len, addO_eq, tab_box (hlb.get 13), tab_box (hlb.get 14), tab_box (hlb.get 15), tab_box (hlb.get 12), eq_self, true_and, and_true, decide_eq_true_eq]
    have b12 := hlb.get 12
    have b13 := hlb.get 13
    have b14 := hlb.get 14
    have b15 := hlb.get 15
    repeat' with_reducible apply And.intro
    all_goals first | omega | skip
    all_goals repeat' (first | exact hlb.get _ | exact hc | exact boxLaw_rng (hlb.get _) | apply nn_xor)
  · rw [A41_fm]; rfl
  · rw [A41_tab, e1, els]
    have hsets : setsLaw (xs41Law key i) (16 * (i + 1)) (nextLaw ((ksLaw key (16 * (i + 1))).drop (16 * i)) (rcLaw i)) = xs41Law key (i + 1) := by
      have hn : (nextLaw ((ksLaw key (16 * (i + 1))).drop (16 * i)) (rcLaw i)).length = 16 := by
        have := congrArg List.length hnext
        rw [List.length_append, ksLaw_len hk (by omega), hlen] at this
        omega
      have := setsLaw_zeros (vs := nextLaw ((ksLaw key (16 * (i + 1))).drop (16 * i)) (rcLaw i)) (l := ksLaw key (16 * (i + 1))) (m := 176 - 16 * (i + 1)) (by omega)
      rw [hlen, hn] at this
      unfold xs41Law
      rw [this, hnext, show 176 - 16 * (i + 1) - 16 = 176 - 16 * (i + 1 + 1) by omega]
    unfold T41
    rw [← hsets]
    generalize (ksLaw key (16 * (i + 1))).drop (16 * i) = ls at hls hlb ⊢
    obtain ⟨a0, a1, a2, a3, a4, a5, a6, a7, a8, a9, a10, a11, a12, a13, a14, a15, rfl⟩ := list16 hls
    simp only [tab_box (hlb.get 13), tab_box (hlb.get 14), tab_box (hlb.get 15), tab_box (hlb.get 12), addO_eq]
    rw [show (((i + 1 : Nat) : Int)).toNat * 16 = 16 * (i + 1) by omega]
    unfold nextLaw
    rw [← stepsX_eq]
    refine Eq.symm ?_
    kernel_rfl
theorem loop41 {key zz ks : List Int} (hk : key.length = 16) (hb : Bytes key) {g g' : Nat} {ow ow' : Bool} : To eH 81 4 (.block 0 (.loop (roundOf 0 f41))) (F41 g 0) (T41 key zz ks g g' ow ow' 0) .normal [(4, .var 2 0), (5, .var 3 0)] (T41 key zz ks g g' ow ow' 10) :=
  To.rounds (F41 g) (T41 key zz ks g g' ow ow') 10 (fun i hi => round41 hk hb hi)
    (To.of (o := B41 (11 : Nat) (rcLaw 10) (xs41Law key 10) zz ks TABLaw g g' ow ow') eH_ok hmA (Nat.le_refl 4) OrcOk.nil rfl (B41_ok (by simp [allP, Con.h])) B41_ex B41_fm B41_tab)
theorem xs41_end (key : List Int) : xs41Law key 10 = ksLaw key 176 := by simp [xs41Law]
theorem xs41_start (key : List Int) : xs41Law key 0 = key ++ List.replicate 160 0 := rfl
def g41 : List AVal → Tab → Out := fun vs T => match vs, T with
  | [.var 0 g, .var 2 0, .var 3 0, .int .u8 c, .int .i64 r], [some ⟨.ints .u8 tb, gg, ow, 72⟩, some ⟨.ints .u8 ks, g', ow', 5⟩, some ⟨.ints .u8 zz, 0, true, 49⟩, some ⟨.ints .u8 xs, 0, true, 49⟩] =>
    ⟨[.rng 1 c 1, .rng 1 r 1, .eqN g gg, .p (tb = TABLaw), .p ((xs.take 16).length = 16 ∧ Bytes (xs.take 16) ∧ xs.drop 16 = List.replicate 160 0)], .normal, [(4, .var 2 0), (5, .var 3 0)],
      [some ⟨.ints .u8 tb, gg, ow, 72⟩, some ⟨.ints .u8 ks, g', ow', 5⟩, some ⟨.ints .u8 zz, 0, true, 49⟩, some ⟨.ints .u8 (ksLaw (xs.take 16) 176), 0, true, 49⟩], []⟩
  | _, _ => failO
theorem g41_ok : BlkOk eH f41 0 (.loop (roundOf 0 f41)) (blkS 4 [0,4,5,6,7] g41) := by
  refine blkS_ok fun vs T h => ?_
  unfold g41 at h ⊢
  split at h
  · rename_i g c r tb gg ow ks g' ow' zz xs
    obtain ⟨h1, h2, h3, h4, h5, _⟩ := h.h
    simp only [Con.h] at h1 h2 h3 h4 h5
    obtain rfl : c = 1 := by omega
    obtain rfl : r = 1 := by omega
    subst h3 h4
    have := loop41 (zz := zz) (ks := ks) (g := g) (g' := g') (ow := ow) (ow' := ow') h5.1 h5.2.1
    unfold T41 at this
    rw [xs41_end, xs41_start, ← h5.2.2, List.take_append_drop] at this
    exact this
  · exact absurd h nofailO
noncomputable def orc41 : OrcL := [(0, blkS 4 [0,4,5,6,7] g41)]
theorem orc41_ok : FnOrc eH f41 orc41 := FnOrc.cons g41_ok (by kernel_rfl) FnOrc.nil
noncomputable def R41 (tb ks : List Int) (g g' off : Nat) (cp : Option Nat) (ow ow' : Bool) : Res := runF eH f41 orc41 400 [.var 0 g, .slice 1 1 g' off 16 cp] [some ⟨.ints .u8 tb, g, ow, 72⟩, some ⟨.ints .u8 ks, g', ow', 5⟩] []
theorem R41_ok {tb ks : List Int} {g g' off : Nat} {cp : Option Nat} {ow ow' : Bool} (h : allP [.eqN g' g', .leN (off + 16) ks.length, .eqN g g, .p (tb = TABLaw), .p ((List.take 16 (over [0, 0, 0, 0, 0, 0, 0, 0, 0, 0, 0, 0, 0, 0, 0, 0, 0, 0, 0, 0, 0, 0, 0, 0, 0, 0, 0, 0, 0, 0, 0, 0, 0, 0, 0, 0, 0, 0, 0, 0, 0, 0, 0, 0, 0, 0, 0, 0, 0, 0, 0, 0, 0, 0, 0, 0, 0, 0, 0, 0, 0, 0, 0, 0, 0, 0, 0, 0, 0, 0, 0,
 0, 0, 0, 0, 0, 0, 0, 0, 0, 0, 0, 0, 0, 0, 0, 0, 0, 0, 0, 0, 0, 0, 0, 0, 0, 0, 0, 0, 0, 0, 0, 0, 0, 0, 0, 0, 0, 0, 0, 0, 0, 0, 0, 0, 0, 0, 0, 0, 0, 0, 0, 0, 0, 0, 0, 0, 0, 0, 0, 0, 0, 0, 0, 0, 0, 0, 0, 0, 0, 0, 0, 0, 0, 0, 0, 0, 0, 0, 0, 0, 0, 0, 0, 0, 0, 0, 0, 0, 0, 0, 0, 0, 0, 0, 0, 0, 0, 0, 0, 0, 0, 0, 0, 0, 0] 0 (List.take 16 (dropO off ks)))).length = 16 ∧ Bytes (List.take 16 (over [0, 0, 0, 0,
 0, 0, 0, 0, 0, 0, 0, 0, 0, 0, 0, 0, 0, 0, 0, 0, 0, 0, 0, 0, 0, 0, 0, 0, 0, 0, 0, 0, 0, 0, 0, 0, 0, 0, 0, 0, 0, 0, 0, 0, 0, 0, 0, 0, 0, 0, 0, 0, 0, 0, 0, 0, 0, 0, 0, 0, 0, 0, 0, 0, 0, 0, 0, 0, 0, 0, 0, 0, 0, 0, 0, 0, 0, 0, 0, 0, 0, 0, 0, 0, 0, 0, 0, 0, 0, 0, 0, 0, 0, 0, 0, 0, 0, 0, 0, 0, 0, 0, 0, 0, 0, 0, 0, 0, 0, 0, 0, 0, 0, 0, 0, 0, 0, 0, 0, 0, 0, 0, 0, 0, 0, 0, 0, 0, 0, 0, 0, 0, 0, 0, 0, 0, 0, 0,
 0, 0, 0, 0, 0, 0, 0, 0, 0, 0, 0, 0, 0, 0, 0, 0, 0, 0, 0, 0, 0, 0, 0, 0, 0, 0, 0, 0, 0, 0, 0, 0, 0, 0, 0, 0, 0, 0] 0 (List.take 16 (dropO off ks)))) ∧ List.drop 16 (over [0, 0, 0, 0, 0, 0, 0, 0, 0, 0, 0, 0, 0, 0, 0, 0, 0, 0, 0, 0, 0, 0, 0, 0, 0, 0, 0, 0, 0, 0, 0, 0, 0, 0, 0, 0, 0, 0, 0, 0, 0, 0, 0, 0, 0, 0, 0, 0, 0, 0, 0, 0, 0, 0, 0, 0, 0, 0, 0, 0, 0, 0, 0, 0, 0, 0, 0, 0, 0, 0, 0, 0, 0, 0, 0, 0, 0,
 0, 0, 0, 0, 0, 0, 0, 0, 0, 0, 0, 0, 0, 0, 0, 0, 0, 0, 0, 0, 0, 0, 0, 0, 0, 0, 0, 0, 0, 0, 0, 0, 0, 0, 0, 0, 0, 0, 0, 0, 0, 0, 0, 0, 0, 0, 0, 0, 0, 0, 0, 0, 0, 0, 0, 0, 0, 0, 0, 0, 0, 0, 0, 0, 0, 0, 0, 0, 0, 0, 0, 0, 0, 0, 0, 0, 0, 0, 0, 0, 0, 0, 0, 0, 0, 0, 0, 0, 0, 0, 0, 0, 0, 0, 0, 0, 0, 0, 0] 0 (List.take 16 (dropO off ks))) = [0, 0, 0, 0, 0, 0, 0, 0, 0, 0, 0, 0, 0, 0, 0, 0, 0, 0, 0, 0, 0, 0, 0,
 0, 0, 0, 0, 0, 0, 0, 0, 0, 0, 0, 0, 0, 0, 0, 0, 0, 0, 0, 0, 0, 0, 0, 0, 0, 0, 0, 0, 0, 0, 0, 0, 0, 0, 0, 0, 0, 0, 0, 0, 0, 0, 0, 0, 0, 0, 0, 0, 0, 0, 0, 0, 0, 0, 0, 0, 0, 0, 0, 0, 0, 0, 0, 0, 0, 0, 0, 0, 0, 0, 0, 0, 0, 0, 0, 0, 0, 0, 0, 0, 0, 0, 0, 0, 0, 0, 0, 0, 0, 0, 0, 0, 0, 0, 0, 0, 0, 0, 0, 0, 0, 0, 0, 0, 0, 0, 0, 0, 0, 0, 0, 0, 0, 0, 0, 0, 0, 0, 0, 0, 0, 0, 0, 0, 0, 0, 0, 0, 0, 0, 0, 0, 0, 0,
 0, 0, 0]), .eqN (ksLaw (List.take 16 (over [0, 0, 0, 0, 0, 0, 0, 0, 0, 0, 0, 0, 0, 0, 0, 0, 0, 0, 0, 0, 0, 0, 0, 0, 0, 0, 0, 0, 0, 0, 0, 0, 0, 0, 0, 0, 0, 0, 0, 0, 0, 0, 0, 0, 0, 0, 0, 0, 0, 0, 0, 0, 0, 0, 0, 0, 0, 0, 0, 0, 0, 0, 0, 0, 0, 0, 0, 0, 0, 0, 0, 0, 0, 0, 0, 0, 0, 0, 0, 0, 0, 0, 0, 0, 0, 0, 0, 0, 0, 0, 0, 0, 0, 0, 0, 0, 0, 0, 0, 0, 0, 0, 0, 0, 0, 0, 0, 0, 0, 0, 0, 0, 0, 0, 0, 0, 0, 0, 0,
 0, 0, 0, 0, 0, 0, 0, 0, 0, 0, 0, 0, 0, 0, 0, 0, 0, 0, 0, 0, 0, 0, 0, 0, 0, 0, 0, 0, 0, 0, 0, 0, 0, 0, 0, 0, 0, 0, 0, 0, 0, 0, 0, 0, 0, 0, 0, 0, 0, 0, 0, 0, 0, 0, 0, 0, 0] 0 (List.take 16 (dropO off ks)))) 176).length 176, .eqN (ksLaw (List.take 16 (over [0, 0, 0, 0, 0, 0, 0, 0, 0, 0, 0, 0, 0, 0, 0, 0, 0, 0, 0, 0, 0, 0, 0, 0, 0, 0, 0, 0, 0, 0, 0, 0, 0, 0, 0, 0, 0, 0, 0, 0, 0, 0, 0, 0, 0, 0, 0, 0, 0,
 0, 0, 0, 0, 0, 0, 0, 0, 0, 0, 0, 0, 0, 0, 0, 0, 0, 0, 0, 0, 0, 0, 0, 0, 0, 0, 0, 0, 0, 0, 0, 0, 0, 0, 0, 0, 0, 0, 0, 0, 0, 0, 0, 0, 0, 0, 0, 0, 0, 0, 0, 0, 0, 0, 0, 0, 0, 0, 0, 0, 0, 0, 0, 0, 0, 0, 0, 0, 0, 0, 0, 0, 0, 0, 0, 0, 0, 0, 0, 0, 0, 0, 0, 0, 0, 0, 0, 0, 0, 0, 0, 0, 0, 0, 0, 0, 0, 0, 0, 0, 0, 0, 0, 0, 0, 0, 0, 0, 0, 0, 0, 0, 0, 0, 0, 0, 0, 0, 0, 0, 0, 0, 0, 0, 0, 0, 0] 0 (List.take 16
 (dropO off ks)))) 176).length 176, .eqN (ksLaw (List.take 16 (over [0, 0, 0, 0, 0, 0, 0, 0, 0, 0, 0, 0, 0, 0, 0, 0, 0, 0, 0, 0, 0, 0, 0, 0, 0, 0, 0, 0, 0, 0, 0, 0, 0, 0, 0, 0, 0, 0, 0, 0, 0, 0, 0, 0, 0, 0, 0, 0, 0, 0, 0, 0, 0, 0, 0, 0, 0, 0, 0, 0, 0, 0, 0, 0, 0, 0, 0, 0, 0, 0, 0, 0, 0, 0, 0, 0, 0, 0, 0, 0, 0, 0, 0, 0, 0, 0, 0, 0, 0, 0, 0, 0, 0, 0, 0, 0, 0, 0, 0, 0, 0, 0, 0, 0, 0, 0, 0, 0, 0, 0, 0,
 0, 0, 0, 0, 0, 0, 0, 0, 0, 0, 0, 0, 0, 0, 0, 0, 0, 0, 0, 0, 0, 0, 0, 0, 0, 0, 0, 0, 0, 0, 0, 0, 0, 0, 0, 0, 0, 0, 0, 0, 0, 0, 0, 0, 0, 0, 0, 0, 0, 0, 0, 0, 0, 0, 0, 0, 0, 0, 0, 0, 0, 0, 0, 0, 0] 0 (List.take 16 (dropO off ks)))) 176).length 176]) : OkR (R41 tb ks g g' off cp ow ow') := OkR.dem (fl := bitsF 25 15350271) (by kernel_rfl) (by kernel_rfl) (by kernel_rfl) h
theorem R41_val {tb ks : List Int} {g g' off : Nat} {cp : Option Nat} {ow ow' : Bool} : (R41 tb ks g g' off cp ow ow').val = .ints .u8 (ksLaw (List.take 16 (over [0, 0, 0, 0, 0, 0, 0, 0, 0, 0, 0, 0, 0, 0, 0, 0, 0, 0, 0, 0, 0, 0, 0, 0, 0, 0, 0, 0, 0, 0, 0, 0, 0, 0, 0, 0, 0, 0, 0, 0, 0, 0, 0, 0, 0, 0, 0, 0, 0, 0, 0, 0, 0, 0, 0, 0, 0, 0, 0, 0, 0, 0, 0, 0, 0, 0, 0, 0, 0, 0, 0, 0, 0, 0, 0, 0, 0, 0, 0,
 0, 0, 0, 0, 0, 0, 0, 0, 0, 0, 0, 0, 0, 0, 0, 0, 0, 0, 0, 0, 0, 0, 0, 0, 0, 0, 0, 0, 0, 0, 0, 0, 0, 0, 0, 0, 0, 0, 0, 0, 0, 0, 0, 0, 0, 0, 0, 0, 0, 0, 0, 0, 0, 0, 0, 0, 0, 0, 0, 0, 0, 0, 0, 0, 0, 0, 0, 0, 0, 0, 0, 0, 0, 0, 0, 0, 0, 0, 0, 0, 0, 0, 0, 0, 0, 0, 0, 0, 0, 0, 0, 0, 0, 0, 0, 0, 0] 0 (List.take 16 (dropO off ks)))) 176) := by kernel_rfl
theorem R41_tab {tb ks : List Int} {g g' off : Nat} {cp : Option Nat} {ow ow' : Bool} : (R41 tb ks g g' off cp ow ow').tab = [some ⟨.ints .u8 tb, g, ow, 72⟩, some ⟨.ints .u8 ks, g', ow', 5⟩, some ⟨.ints .u8 (ksLaw (List.take 16 (over [0, 0, 0, 0, 0, 0, 0, 0, 0, 0, 0, 0, 0, 0, 0, 0, 0, 0, 0, 0, 0, 0, 0, 0, 0, 0, 0, 0, 0, 0, 0, 0, 0, 0, 0, 0, 0, 0, 0, 0, 0, 0, 0, 0, 0, 0, 0, 0, 0, 0, 0, 0, 0, 0, 0,
 0, 0, 0, 0, 0, 0, 0, 0, 0, 0, 0, 0, 0, 0, 0, 0, 0, 0, 0, 0, 0, 0, 0, 0, 0, 0, 0, 0, 0, 0, 0, 0, 0, 0, 0, 0, 0, 0, 0, 0, 0, 0, 0, 0, 0, 0, 0, 0, 0, 0, 0, 0, 0, 0, 0, 0, 0, 0, 0, 0, 0, 0, 0, 0, 0, 0, 0, 0, 0, 0, 0, 0, 0, 0, 0, 0, 0, 0, 0, 0, 0, 0, 0, 0, 0, 0, 0, 0, 0, 0, 0, 0, 0, 0, 0, 0, 0, 0, 0, 0, 0, 0, 0, 0, 0, 0, 0, 0, 0, 0, 0, 0, 0, 0, 0, 0, 0, 0, 0, 0, 0] 0 (List.take 16 (dropO off ks))))
 176), 0, true, 49⟩, some ⟨.ints .u8 (ksLaw (List.take 16 (over [0, 0, 0, 0, 0, 0, 0, 0, 0, 0, 0, 0, 0, 0, 0, 0, 0, 0, 0, 0, 0, 0, 0, 0, 0, 0, 0, 0, 0, 0, 0, 0, 0, 0, 0, 0, 0, 0, 0, 0, 0, 0, 0, 0, 0, 0, 0, 0, 0, 0, 0, 0, 0, 0, 0, 0, 0, 0, 0, 0, 0, 0, 0, 0, 0, 0, 0, 0, 0, 0, 0, 0, 0, 0, 0, 0, 0, 0, 0, 0, 0, 0, 0, 0, 0, 0, 0, 0, 0, 0, 0, 0, 0, 0, 0, 0, 0, 0, 0, 0, 0, 0, 0, 0, 0, 0, 0, 0, 0, 0, 0, 0,
 0, 0, 0, 0, 0, 0, 0, 0, 0, 0, 0, 0, 0, 0, 0, 0, 0, 0, 0, 0, 0, 0, 0, 0, 0, 0, 0, 0, 0, 0, 0, 0, 0, 0, 0, 0, 0, 0, 0, 0, 0, 0, 0, 0, 0, 0, 0, 0, 0, 0, 0, 0, 0, 0, 0, 0, 0, 0, 0, 0, 0, 0, 0, 0] 0 (List.take 16 (dropO off ks)))) 176), 0, true, 49⟩] := by kernel_rfl
end Go.Abs

set_option linter.unusedVariables false
set_option linter.unusedSimpArgs false
set_option maxRecDepth 8000
namespace Go.Abs
open Go.Proofs.Try
def subLaw (zs : List Int) (off n : Nat) : List Int := (zs.drop off).take n
theorem subLaw_len {zs : List Int} {off n : Nat} (h : off + n ≤ zs.length) : (subLaw zs off n).length = n := by simp [subLaw]; omega
theorem over16t (zs l : List Int) (h : l.length = 16) : List.take 16 (over zs 0 l) = l := by
  unfold over
  rw [List.take_zero, List.nil_append, List.take_append_of_le_length (by omega), List.take_of_length_le (by omega)]
theorem over16' (zs l : List Int) (h : l.length = 16) (hz : zs.drop 16 = List.replicate 160 0) (hb : Bytes l) : (List.take 16 (over zs 0 l)).length = 16 ∧ Bytes (List.take 16 (over zs 0 l)) ∧ List.drop 16 (over zs 0 l) = List.replicate 160 0 := by
  rw [over16t zs l h]
  refine ⟨h, hb, ?_⟩
  unfold over
  rw [List.take_zero, List.nil_append, Nat.zero_add, h, List.drop_append_of_le_length (by omega), List.drop_of_length_le (by omega), List.nil_append, hz]
def sm41 : Summary := fun args T => match args, T with
  | [.var 0 g, .slice 1 1 g' off 16 cp], [some ⟨.ints .u8 tb, gg, ow, 72⟩, some ⟨.ints .u8 ks, gg', ow', 5⟩] =>
    ⟨[.eqN g gg, .eqN g' gg', .leN (off + 16) ks.length, .p (tb = TABLaw), .p (Bytes (subLaw ks off 16))], .ints .u8 (ksLaw (subLaw ks off 16) 176), [some ⟨.ints .u8 tb, gg, ow, 72⟩, some ⟨.ints .u8 ks, gg', ow', 5⟩]⟩
  | _, _ => fail
theorem sm41_ok : SmOk prog (fun _ => none) 41 sm41 := by
  intro args T hc
  unfold sm41 at hc ⊢
  split at hc
  · rename_i g g' off cp tb gg ow ks gg' ow'
    obtain ⟨h1, h2, h3, h4, h5, _⟩ := hc
    simp only [Con.h] at h1 h2 h3 h4 h5
    subst h1 h2 h4
    have hl := subLaw_len h3
    have hl' : (List.take 16 (dropO off ks)).length = 16 := by rw [dropO_eq]; exact hl
    have hb' : Bytes (List.take 16 (dropO off ks)) := by rw [dropO_eq]; exact h5
    have h := small_of (R := R41 TABLaw ks g g' off cp ow ow') eH_ok hmA (f := 41) (fn := f41) (by kernel_rfl) (by kernel_rfl) orc41_ok rfl (R41_ok ?_) (R41_val.trans (by rw [over16t _ _ hl'])) R41_tab
    · have h2 := small_drop h
      rw [dropO_eq] at h2
      exact h2
    · refine ⟨rfl, h3, rfl, rfl, over16' _ _ hl' ?_ hb', ?_⟩
      · kernel_rfl
      · rw [over16t _ _ hl']
        have hk := ksLaw_len hl' (n := 176) (by omega)
        simp only [allP, Con.h, hk, and_true]
  · exact absurd hc nofail
def S41 : Summary := callR sm41 []
theorem S41_ok : SumOk prog (fun _ => none) 41 S41 := callR_ok sm41_ok []
end Go.Abs

set_option linter.unusedVariables false
set_option linter.unusedSimpArgs false
set_option maxRecDepth 8000
namespace Go.Abs
open Go.Proofs.Try
end Go.Abs

set_option linter.unusedVariables false
set_option linter.unusedSimpArgs false
set_option maxRecDepth 8000
namespace Go.Abs
open Go.Proofs.Try
end Go.Abs

set_option linter.unusedVariables false
set_option linter.unusedSimpArgs false
set_option maxRecDepth 8000
namespace Go.Abs
open Go.Proofs.Try
end Go.Abs

set_option linter.unusedVariables false
set_option linter.unusedSimpArgs false
set_option maxRecDepth 8000
namespace Go.Abs
open Go.Proofs.Try
end Go.Abs

set_option linter.unusedVariables false
set_option linter.unusedSimpArgs false
set_option maxRecDepth 8000
namespace Go.Abs
open Go.Proofs.Try
theorem Bytes.of {l : List Int} (h : ∀ z ∈ l, 0 ≤ z ∧ z < 256) : Bytes l := fun i hi => by
  rw [List.getD_eq_getElem?_getD, List.getElem?_eq_getElem hi]; exact h _ (List.getElem_mem hi)
end Go.Abs

set_option linter.unusedVariables false
set_option linter.unusedSimpArgs false
set_option maxRecDepth 8000
namespace Go.Abs
open Go.Proofs.Try
/-! ### squares -/
def l16 (f : Nat → Int) : List Int := [f 0, f 1, f 2, f 3, f 4, f 5, f 6, f 7, f 8, f 9, f 10, f 11, f 12, f 13, f 14, f 15]
theorem l16_get (f : Nat → Int) : ∀ i, i < 16 → (l16 f).getD i 0 = f i := by
  intro i hi
  match i, hi with
  | 0, _ => rfl | 1, _ => rfl | 2, _ => rfl | 3, _ => rfl | 4, _ => rfl | 5, _ => rfl | 6, _ => rfl | 7, _ => rfl
  | 8, _ => rfl | 9, _ => rfl | 10, _ => rfl | 11, _ => rfl | 12, _ => rfl | 13, _ => rfl | 14, _ => rfl | 15, _ => rfl
  | n + 16, h => exact absurd h (by omega)
theorem l16_bytes {f : Nat → Int} (h : ∀ i, i < 16 → 0 ≤ f i ∧ f i < 256) : Bytes (l16 f) := fun i hi => by
  rw [l16_get f i hi]; exact h i hi
theorem l16_of {l : List Int} (h : l.length = 16) : l16 (fun i => l.getD i 0) = l := by
  obtain ⟨a0, a1, a2, a3, a4, a5, a6, a7, a8, a9, a10, a11, a12, a13, a14, a15, rfl⟩ := list16 h
  rfl
theorem l16_congr {f g : Nat → Int} (h : ∀ i, i < 16 → f i = g i) : l16 f = l16 g := by
  unfold l16
  rw [h 0 (by decide), h 1 (by decide), h 2 (by decide), h 3 (by decide), h 4 (by decide), h 5 (by decide), h 6 (by decide), h 7 (by decide), h 8 (by decide), h 9 (by decide), h 10 (by decide), h 11 (by decide), h 12 (by decide), h 13 (by decide), h 14 (by decide), h 15 (by decide)]
def backLaw (x : Int) : Int := TABLaw.getD (256 + x.toNat) 0
def plusLaw (s k : List Int) : List Int := l16 fun i => ixor (s.getD i 0) (k.getD i 0)
def boxedLaw (s : List Int) : List Int := l16 fun i => boxLaw (s.getD i 0)
def unboxedLaw (s : List Int) : List Int := l16 fun i => backLaw (s.getD i 0)
def turnedLaw (n : Nat) (s : List Int) : List Int := l16 fun i => s.getD ((4 * n * (i % 4) + i) % 16) 0
def mixByLaw (f : Int → Int → Int) (m s : List Int) : List Int := l16 fun i =>
  ixor (ixor (ixor (ixor 0 (f (m.getD ((0 + 4 - i % 4) % 4) 0) (s.getD (i / 4 * 4) 0))) (f (m.getD ((1 + 4 - i % 4) % 4) 0) (s.getD (i / 4 * 4 + 1) 0))) (f (m.getD ((2 + 4 - i % 4) % 4) 0) (s.getD (i / 4 * 4 + 2) 0))) (f (m.getD ((3 + 4 - i % 4) % 4) 0) (s.getD (i / 4 * 4 + 3) 0))
def mixLaw (s : List Int) : List Int := mixByLaw timesLaw [2, 3, 1, 1] s
def unmixLaw (s : List Int) : List Int := mixByLaw timesLaw [14, 11, 13, 9] s
noncomputable def R43 (a0 a1 a2 a3 a4 a5 a6 a7 a8 a9 a10 a11 a12 a13 a14 a15 b0 b1 b2 b3 b4 b5 b6 b7 b8 b9 b10 b11 b12 b13 b14 b15 : Int) : Res := runF (eA []) f43 [] 400 [.ints .u8 [a0, a1, a2, a3, a4, a5, a6, a7, a8, a9, a10, a11, a12, a13, a14, a15], .ints .u8 [b0, b1, b2, b3, b4, b5, b6, b7, b8, b9, b10, b11, b12, b13, b14, b15]] [] []
theorem R43_ok {a0 a1 a2 a3 a4 a5 a6 a7 a8 a9 a10 a11 a12 a13 a14 a15 b0 b1 b2 b3 b4 b5 b6 b7 b8 b9 b10 b11 b12 b13 b14 b15 : Int} (h : allP [.nn .u8 a0, .nn .u8 b0, .nn .u8 a1, .nn .u8 b1, .nn .u8 a2, .nn .u8 b2, .nn .u8 a3, .nn .u8 b3, .nn .u8 a4, .nn .u8 b4, .nn .u8 a5, .nn .u8 b5, .nn .u8 a6, .nn .u8 b6, .nn .u8 a7, .nn .u8 b7, .nn .u8 a8, .nn .u8 b8, .nn .u8 a9, .nn .u8 b9, .nn .u8 a10, .nn
 .u8 b10, .nn .u8 a11, .nn .u8 b11, .nn .u8 a12, .nn .u8 b12, .nn .u8 a13, .nn .u8 b13, .nn .u8 a14, .nn .u8 b14, .nn .u8 a15, .nn .u8 b15]) : OkR (R43 a0 a1 a2 a3 a4 a5 a6 a7 a8 a9 a10 a11 a12 a13 a14 a15 b0 b1 b2 b3 b4 b5 b6 b7 b8 b9 b10 b11 b12 b13 b14 b15) := OkR.dem (fl := bitsF 360 2346235642952122050404403646816467721137879611140647331422351725666312341271985797665097974054046897884096510)
 (by kernel_rfl) (by kernel_rfl) (by kernel_rfl) h
theorem R43_val {a0 a1 a2 a3 a4 a5 a6 a7 a8 a9 a10 a11 a12 a13 a14 a15 b0 b1 b2 b3 b4 b5 b6 b7 b8 b9 b10 b11 b12 b13 b14 b15 : Int} : (R43 a0 a1 a2 a3 a4 a5 a6 a7 a8 a9 a10 a11 a12 a13 a14 a15 b0 b1 b2 b3 b4 b5 b6 b7 b8 b9 b10 b11 b12 b13 b14 b15).val = .ints .u8 [ixor a0 b0, ixor a1 b1, ixor a2 b2, ixor a3 b3, ixor a4 b4, ixor a5 b5, ixor a6 b6, ixor a7 b7, ixor a8 b8, ixor a9 b9, ixor a10 b10,
 ixor a11 b11, ixor a12 b12, ixor a13 b13, ixor a14 b14, ixor a15 b15] := by kernel_rfl
theorem R43_tab {a0 a1 a2 a3 a4 a5 a6 a7 a8 a9 a10 a11 a12 a13 a14 a15 b0 b1 b2 b3 b4 b5 b6 b7 b8 b9 b10 b11 b12 b13 b14 b15 : Int} : (R43 a0 a1 a2 a3 a4 a5 a6 a7 a8 a9 a10 a11 a12 a13 a14 a15 b0 b1 b2 b3 b4 b5 b6 b7 b8 b9 b10 b11 b12 b13 b14 b15).tab = [some ⟨.ints .u8 [ixor a0 b0, ixor a1 b1, ixor a2 b2, ixor a3 b3, ixor a4 b4, ixor a5 b5, ixor a6 b6, ixor a7 b7, ixor a8 b8, ixor a9 b9, ixor a10
 b10, ixor a11 b11, ixor a12 b12, ixor a13 b13, ixor a14 b14, ixor a15 b15], 0, true, 48⟩, some ⟨.ints .u8 [b0, b1, b2, b3, b4, b5, b6, b7, b8, b9, b10, b11, b12, b13, b14, b15], 0, true, 48⟩, some ⟨.ints .u8 [ixor a0 b0, ixor a1 b1, ixor a2 b2, ixor a3 b3, ixor a4 b4, ixor a5 b5, ixor a6 b6, ixor a7 b7, ixor a8 b8, ixor a9 b9, ixor a10 b10, ixor a11 b11, ixor a12 b12, ixor a13 b13, ixor a14 b14,
 ixor a15 b15], 0, true, 48⟩] := by kernel_rfl
noncomputable def R44 (a0 a1 a2 a3 a4 a5 a6 a7 a8 a9 a10 a11 a12 a13 a14 a15 : Int) (tb : List Int) (g : Nat) (ow : Bool) : Res := runF (eA []) f44 [] 400 [.ints .u8 [a0, a1, a2, a3, a4, a5, a6, a7, a8, a9, a10, a11, a12, a13, a14, a15], .var 0 g] [some ⟨.ints .u8 tb, g, ow, 72⟩] []
theorem R44_ok {a0 a1 a2 a3 a4 a5 a6 a7 a8 a9 a10 a11 a12 a13 a14 a15 : Int} {tb : List Int} {g : Nat} {ow : Bool} (h : allP [.eqN g g, .eqN g g, .leI 0 a0, .leI (a0 + 1) 256, .eqN g g, .eqN g g, .leN (a0.toNat + 1) tb.length, .eqN g g, .eqN g g, .leI 0 a1, .leI (a1 + 1) 256, .eqN g g, .eqN g g, .leN (a1.toNat + 1) tb.length, .eqN g g, .eqN g g, .leI 0 a2, .leI (a2 + 1) 256, .eqN g g, .eqN g g,
 .leN (a2.toNat + 1) tb.length, .eqN g g, .eqN g g, .leI 0 a3, .leI (a3 + 1) 256, .eqN g g, .eqN g g, .leN (a3.toNat + 1) tb.length, .eqN g g, .eqN g g, .leI 0 a4, .leI (a4 + 1) 256, .eqN g g, .eqN g g, .leN (a4.toNat + 1) tb.length, .eqN g g, .eqN g g, .leI 0 a5, .leI (a5 + 1) 256, .eqN g g, .eqN g g, .leN (a5.toNat + 1) tb.length, .eqN g g, .eqN g g, .leI 0 a6, .leI (a6 + 1) 256, .eqN g g, .eqN g
 g, .leN (a6.toNat + 1) tb.length, .eqN g g, .eqN g g, .leI 0 a7, .leI (a7 + 1) 256, .eqN g g, .eqN g g, .leN (a7.toNat + 1) tb.length, .eqN g g, .eqN g g, .leI 0 a8, .leI (a8 + 1) 256, .eqN g g, .eqN g g, .leN (a8.toNat + 1) tb.length, .eqN g g, .eqN g g, .leI 0 a9, .leI (a9 + 1) 256, .eqN g g, .eqN g g, .leN (a9.toNat + 1) tb.length, .eqN g g, .eqN g g, .leI 0 a10, .leI (a10 + 1) 256, .eqN g g,
 .eqN g g, .leN (a10.toNat + 1) tb.length, .eqN g g, .eqN g g, .leI 0 a11, .leI (a11 + 1) 256, .eqN g g, .eqN g g, .leN (a11.toNat + 1) tb.length, .eqN g g, .eqN g g, .leI 0 a12, .leI (a12 + 1) 256, .eqN g g, .eqN g g, .leN (a12.toNat + 1) tb.length, .eqN g g, .eqN g g, .leI 0 a13, .leI (a13 + 1) 256, .eqN g g, .eqN g g, .leN (a13.toNat + 1) tb.length, .eqN g g, .eqN g g, .leI 0 a14, .leI (a14 + 1)
 256, .eqN g g, .eqN g g, .leN (a14.toNat + 1) tb.length, .eqN g g, .eqN g g, .leI 0 a15, .leI (a15 + 1) 256, .eqN g g, .eqN g g, .leN (a15.toNat + 1) tb.length]) : OkR (R44 a0 a1 a2 a3 a4 a5 a6 a7 a8 a9 a10 a11 a12 a13 a14 a15 tb g ow) := OkR.dem (fl := bitsF 298 509251284087044197843366292636913578231097536559799579681714802257448417336221965135900703) (by kernel_rfl) (by kernel_rfl) (by
 kernel_rfl) h
theorem R44_val {a0 a1 a2 a3 a4 a5 a6 a7 a8 a9 a10 a11 a12 a13 a14 a15 : Int} {tb : List Int} {g : Nat} {ow : Bool} : (R44 a0 a1 a2 a3 a4 a5 a6 a7 a8 a9 a10 a11 a12 a13 a14 a15 tb g ow).val = .ints .u8 [tb.getD a0.toNat 0, tb.getD a1.toNat 0, tb.getD a2.toNat 0, tb.getD a3.toNat 0, tb.getD a4.toNat 0, tb.getD a5.toNat 0, tb.getD a6.toNat 0, tb.getD a7.toNat 0, tb.getD a8.toNat 0, tb.getD a9.toNat
 0, tb.getD a10.toNat 0, tb.getD a11.toNat 0, tb.getD a12.toNat 0, tb.getD a13.toNat 0, tb.getD a14.toNat 0, tb.getD a15.toNat 0] := by kernel_rfl
theorem R44_tab {a0 a1 a2 a3 a4 a5 a6 a7 a8 a9 a10 a11 a12 a13 a14 a15 : Int} {tb : List Int} {g : Nat} {ow : Bool} : (R44 a0 a1 a2 a3 a4 a5 a6 a7 a8 a9 a10 a11 a12 a13 a14 a15 tb g ow).tab = [some ⟨.ints .u8 tb, g, ow, 72⟩, some ⟨.ints .u8 [tb.getD a0.toNat 0, tb.getD a1.toNat 0, tb.getD a2.toNat 0, tb.getD a3.toNat 0, tb.getD a4.toNat 0, tb.getD a5.toNat 0, tb.getD a6.toNat 0, tb.getD a7.toNat 0,
 tb.getD a8.toNat 0, tb.getD a9.toNat 0, tb.getD a10.toNat 0, tb.getD a11.toNat 0, tb.getD a12.toNat 0, tb.getD a13.toNat 0, tb.getD a14.toNat 0, tb.getD a15.toNat 0], 0, true, 48⟩, some ⟨.ints .u8 [tb.getD a0.toNat 0, tb.getD a1.toNat 0, tb.getD a2.toNat 0, tb.getD a3.toNat 0, tb.getD a4.toNat 0, tb.getD a5.toNat 0, tb.getD a6.toNat 0, tb.getD a7.toNat 0, tb.getD a8.toNat 0, tb.getD a9.toNat 0,
 tb.getD a10.toNat 0, tb.getD a11.toNat 0, tb.getD a12.toNat 0, tb.getD a13.toNat 0, tb.getD a14.toNat 0, tb.getD a15.toNat 0], 0, true, 48⟩] := by kernel_rfl
noncomputable def R68a (a0 a1 a2 a3 a4 a5 a6 a7 a8 a9 a10 a11 a12 a13 a14 a15 : Int) : Res := runF (eA []) f68 [] 400 [.ints .u8 [a0, a1, a2, a3, a4, a5, a6, a7, a8, a9, a10, a11, a12, a13, a14, a15], .int .i64 1] [] []
theorem R68a_ok {a0 a1 a2 a3 a4 a5 a6 a7 a8 a9 a10 a11 a12 a13 a14 a15 : Int} (h : allP []) : OkR (R68a a0 a1 a2 a3 a4 a5 a6 a7 a8 a9 a10 a11 a12 a13 a14 a15) := OkR.dem (fl := bitsF 296 127314748520905380391777855525586135065716774604121015664758778084648831235208544136462335) (by kernel_rfl) (by kernel_rfl) (by kernel_rfl) h
theorem R68a_val {a0 a1 a2 a3 a4 a5 a6 a7 a8 a9 a10 a11 a12 a13 a14 a15 : Int} : (R68a a0 a1 a2 a3 a4 a5 a6 a7 a8 a9 a10 a11 a12 a13 a14 a15).val = .ints .u8 [a0, a5, a10, a15, a4, a9, a14, a3, a8, a13, a2, a7, a12, a1, a6, a11] := by kernel_rfl
theorem R68a_tab {a0 a1 a2 a3 a4 a5 a6 a7 a8 a9 a10 a11 a12 a13 a14 a15 : Int} : (R68a a0 a1 a2 a3 a4 a5 a6 a7 a8 a9 a10 a11 a12 a13 a14 a15).tab = [some ⟨.ints .u8 [a0, a1, a2, a3, a4, a5, a6, a7, a8, a9, a10, a11, a12, a13, a14, a15], 0, true, 48⟩, some ⟨.ints .u8 [a0, a5, a10, a15, a4, a9, a14, a3, a8, a13, a2, a7, a12, a1, a6, a11], 0, true, 48⟩, some ⟨.ints .u8 [a0, a5, a10, a15, a4, a9, a14,
 a3, a8, a13, a2, a7, a12, a1, a6, a11], 0, true, 48⟩] := by kernel_rfl
noncomputable def R68b (a0 a1 a2 a3 a4 a5 a6 a7 a8 a9 a10 a11 a12 a13 a14 a15 : Int) : Res := runF (eA []) f68 [] 400 [.ints .u8 [a0, a1, a2, a3, a4, a5, a6, a7, a8, a9, a10, a11, a12, a13, a14, a15], .int .i64 3] [] []
theorem R68b_ok {a0 a1 a2 a3 a4 a5 a6 a7 a8 a9 a10 a11 a12 a13 a14 a15 : Int} (h : allP []) : OkR (R68b a0 a1 a2 a3 a4 a5 a6 a7 a8 a9 a10 a11 a12 a13 a14 a15) := OkR.dem (fl := bitsF 296 127314748520905380391777855525586135065716774604121015664758778084648831235208544136462335) (by kernel_rfl) (by kernel_rfl) (by kernel_rfl) h
theorem R68b_val {a0 a1 a2 a3 a4 a5 a6 a7 a8 a9 a10 a11 a12 a13 a14 a15 : Int} : (R68b a0 a1 a2 a3 a4 a5 a6 a7 a8 a9 a10 a11 a12 a13 a14 a15).val = .ints .u8 [a0, a13, a10, a7, a4, a1, a14, a11, a8, a5, a2, a15, a12, a9, a6, a3] := by kernel_rfl
theorem R68b_tab {a0 a1 a2 a3 a4 a5 a6 a7 a8 a9 a10 a11 a12 a13 a14 a15 : Int} : (R68b a0 a1 a2 a3 a4 a5 a6 a7 a8 a9 a10 a11 a12 a13 a14 a15).tab = [some ⟨.ints .u8 [a0, a1, a2, a3, a4, a5, a6, a7, a8, a9, a10, a11, a12, a13, a14, a15], 0, true, 48⟩, some ⟨.ints .u8 [a0, a13, a10, a7, a4, a1, a14, a11, a8, a5, a2, a15, a12, a9, a6, a3], 0, true, 48⟩, some ⟨.ints .u8 [a0, a13, a10, a7, a4, a1, a14,
 a11, a8, a5, a2, a15, a12, a9, a6, a3], 0, true, 48⟩] := by kernel_rfl
noncomputable def eM0 : Env := eA [(66, S66)]
theorem eM0_ok : EnvOk eM0 := envOf_ok tysA_ok (SumsOk.cons (fn := f66) S66_ok (by kernel_rfl) (by kernel_rfl) (by kernel_rfl) trivial)
noncomputable def R78_1 (x : Int) : Res := runF eM0 f78 [] 400 [.int .u8 x, .int .u8 1] [] []
theorem R78_1_ok {x : Int} (h : allP [.nn .u8 x, .rng 0 x 255]) : OkR (R78_1 x) := OkR.dem (fl := [true, true, true, false, false, true]) (by kernel_rfl) (by kernel_rfl) (by kernel_rfl) h
theorem R78_1_val {x : Int} : (R78_1 x).val = .int .u8 (ixor 0 x) := by kernel_rfl
theorem R78_1_tab {x : Int} : (R78_1 x).tab = [] := by kernel_rfl
noncomputable def R78_2 (x : Int) : Res := runF eM0 f78 [] 400 [.int .u8 x, .int .u8 2] [] []
theorem R78_2_ok {x : Int} (h : allP [.rng 0 x 255, .nn .u8 (dblLaw x), .rng 0 (dblLaw x) 255]) : OkR (R78_2 x) := OkR.dem (fl := [true, true, false, true, true, true, true, false, false, true]) (by kernel_rfl) (by kernel_rfl) (by kernel_rfl) h
theorem R78_2_val {x : Int} : (R78_2 x).val = .int .u8 (ixor 0 (dblLaw x)) := by kernel_rfl
theorem R78_2_tab {x : Int} : (R78_2 x).tab = [] := by kernel_rfl
noncomputable def R78_3 (x : Int) : Res := runF eM0 f78 [] 400 [.int .u8 x, .int .u8 3] [] []
theorem R78_3_ok {x : Int} (h : allP [.nn .u8 x, .rng 0 x 255, .nn .u8 (ixor 0 x), .nn .u8 (dblLaw x), .rng 0 (dblLaw x) 255]) : OkR (R78_3 x) := OkR.dem (fl := bitsF 12 2279) (by kernel_rfl) (by kernel_rfl) (by kernel_rfl) h
theorem R78_3_val {x : Int} : (R78_3 x).val = .int .u8 (ixor (ixor 0 x) (dblLaw x)) := by kernel_rfl
theorem R78_3_tab {x : Int} : (R78_3 x).tab = [] := by kernel_rfl
noncomputable def R78_9 (x : Int) : Res := runF eM0 f78 [] 400 [.int .u8 x, .int .u8 9] [] []
theorem R78_9_ok {x : Int} (h : allP [.nn .u8 x, .rng 0 x 255, .rng 0 (dblLaw x) 255, .rng 0 (dblLaw (dblLaw x)) 255, .nn .u8 (ixor 0 x), .nn .u8 (dblLaw (dblLaw (dblLaw x))), .rng 0 (dblLaw (dblLaw (dblLaw x))) 255]) : OkR (R78_9 x) := OkR.dem (fl := bitsF 20 585447) (by kernel_rfl) (by kernel_rfl) (by kernel_rfl) h
theorem R78_9_val {x : Int} : (R78_9 x).val = .int .u8 (ixor (ixor 0 x) (dblLaw (dblLaw (dblLaw x)))) := by kernel_rfl
theorem R78_9_tab {x : Int} : (R78_9 x).tab = [] := by kernel_rfl
noncomputable def R78_11 (x : Int) : Res := runF eM0 f78 [] 400 [.int .u8 x, .int .u8 11] [] []
theorem R78_11_ok {x : Int} (h : allP [.nn .u8 x, .rng 0 x 255, .nn .u8 (ixor 0 x), .nn .u8 (dblLaw x), .rng 0 (dblLaw x) 255, .rng 0 (dblLaw (dblLaw x)) 255, .nn .u8 (ixor (ixor 0 x) (dblLaw x)), .nn .u8 (dblLaw (dblLaw (dblLaw x))), .rng 0 (dblLaw (dblLaw (dblLaw x))) 255]) : OkR (R78_11 x) := OkR.dem (fl := bitsF 22 2341095) (by kernel_rfl) (by kernel_rfl) (by kernel_rfl) h
theorem R78_11_val {x : Int} : (R78_11 x).val = .int .u8 (ixor (ixor (ixor 0 x) (dblLaw x)) (dblLaw (dblLaw (dblLaw x)))) := by kernel_rfl
theorem R78_11_tab {x : Int} : (R78_11 x).tab = [] := by kernel_rfl
noncomputable def R78_13 (x : Int) : Res := runF eM0 f78 [] 400 [.int .u8 x, .int .u8 13] [] []
theorem R78_13_ok {x : Int} (h : allP [.nn .u8 x, .rng 0 x 255, .rng 0 (dblLaw x) 255, .nn .u8 (ixor 0 x), .nn .u8 (dblLaw (dblLaw x)), .rng 0 (dblLaw (dblLaw x)) 255, .nn .u8 (ixor (ixor 0 x) (dblLaw (dblLaw x))), .nn .u8 (dblLaw (dblLaw (dblLaw x))), .rng 0 (dblLaw (dblLaw (dblLaw x))) 255]) : OkR (R78_13 x) := OkR.dem (fl := bitsF 22 2330343) (by kernel_rfl) (by kernel_rfl) (by kernel_rfl) h
theorem R78_13_val {x : Int} : (R78_13 x).val = .int .u8 (ixor (ixor (ixor 0 x) (dblLaw (dblLaw x))) (dblLaw (dblLaw (dblLaw x)))) := by kernel_rfl
theorem R78_13_tab {x : Int} : (R78_13 x).tab = [] := by kernel_rfl
noncomputable def R78_14 (x : Int) : Res := runF eM0 f78 [] 400 [.int .u8 x, .int .u8 14] [] []
theorem R78_14_ok {x : Int} (h : allP [.rng 0 x 255, .nn .u8 (dblLaw x), .rng 0 (dblLaw x) 255, .nn .u8 (ixor 0 (dblLaw x)), .nn .u8 (dblLaw (dblLaw x)), .rng 0 (dblLaw (dblLaw x)) 255, .nn .u8 (ixor (ixor 0 (dblLaw x)) (dblLaw (dblLaw x))), .nn .u8 (dblLaw (dblLaw (dblLaw x))), .rng 0 (dblLaw (dblLaw (dblLaw x))) 255]) : OkR (R78_14 x) := OkR.dem (fl := bitsF 22 2330235) (by kernel_rfl) (by
 kernel_rfl) (by kernel_rfl) h
theorem R78_14_val {x : Int} : (R78_14 x).val = .int .u8 (ixor (ixor (ixor 0 (dblLaw x)) (dblLaw (dblLaw x))) (dblLaw (dblLaw (dblLaw x)))) := by kernel_rfl
theorem R78_14_tab {x : Int} : (R78_14 x).tab = [] := by kernel_rfl
theorem congr16 {x0 y0 x1 y1 x2 y2 x3 y3 x4 y4 x5 y5 x6 y6 x7 y7 x8 y8 x9 y9 x10 y10 x11 y11 x12 y12 x13 y13 x14 y14 x15 y15 : Int} (h0 : x0 = y0) (h1 : x1 = y1) (h2 : x2 = y2) (h3 : x3 = y3) (h4 : x4 = y4) (h5 : x5 = y5) (h6 : x6 = y6) (h7 : x7 = y7) (h8 : x8 = y8) (h9 : x9 = y9) (h10 : x10 = y10) (h11 : x11 = y11) (h12 : x12 = y12) (h13 : x13 = y13) (h14 : x14 = y14) (h15 : x15 = y15) : [x0, x1, x2, x3, x4, x5, x6, x7, x8, x9, x10, x11, x12, x13, x14, x15] = [y0, y1, y2, y3, y4, y5, y6, y7, y8, y9, y10, y11, y12, y13, y14, y15] := by subst h0 h1 h2 h3 h4 h5 h6 h7 h8 h9 h10 h11 h12 h13 h14 h15; rfl
def sm43 : Summary := fun args T => match args, T with
  | [.ints .u8 s, .ints .u8 k], [] => ⟨[.eqN s.length 16, .eqN k.length 16, .p (Bytes s), .p (Bytes k)], .ints .u8 (plusLaw s k), []⟩
  | _, _ => fail
theorem sm43_ok : SmOk prog (fun _ => none) 43 sm43 := by
  intro args T hc
  unfold sm43 at hc ⊢
  split at hc
  · obtain ⟨h1, h2, h3, h4, _⟩ := hc
    simp only [Con.h] at h1 h2 h3 h4
    obtain ⟨a0, a1, a2, a3, a4, a5, a6, a7, a8, a9, a10, a11, a12, a13, a14, a15, rfl⟩ := list16 h1
    obtain ⟨b0, b1, b2, b3, b4, b5, b6, b7, b8, b9, b10, b11, b12, b13, b14, b15, rfl⟩ := list16 h2
    have p0 : 0 ≤ a0 ∧ a0 < 256 := h3.get 0
    have p1 : 0 ≤ a1 ∧ a1 < 256 := h3.get 1
    have p2 : 0 ≤ a2 ∧ a2 < 256 := h3.get 2
    have p3 : 0 ≤ a3 ∧ a3 < 256 := h3.get 3
    have p4 : 0 ≤ a4 ∧ a4 < 256 := h3.get 4
    have p5 : 0 ≤ a5 ∧ a5 < 256 := h3.get 5
    have p6 : 0 ≤ a6 ∧ a6 < 256 := h3.get 6
    have p7 : 0 ≤ a7 ∧ a7 < 256 := h3.get 7
    have p8 : 0 ≤ a8 ∧ a8 < 256 := h3.get 8
    have p9 : 0 ≤ a9 ∧ a9 < 256 := h3.get 9
    have p10 : 0 ≤ a10 ∧ a10 < 256 := h3.get 10
    have p11 : 0 ≤ a11 ∧ a11 < 256 := h3.get 11
    have p12 : 0 ≤ a12 ∧ a12 < 256 := h3.get 12
    have p13 : 0 ≤ a13 ∧ a13 < 256 := h3.get 13
    have p14 : 0 ≤ a14 ∧ a14 < 256 := h3.get 14
    have p15 : 0 ≤ a15 ∧ a15 < 256 := h3.get 15
    have q0 : 0 ≤ b0 ∧ b0 < 256 := h4.get 0
    have q1 : 0 ≤ b1 ∧ b1 < 256 := h4.get 1
    have q2 : 0 ≤ b2 ∧ b2 < 256 := h4.get 2
    have q3 : 0 ≤ b3 ∧ b3 < 256 := h4.get 3
    have q4 : 0 ≤ b4 ∧ b4 < 256 := h4.get 4
    have q5 : 0 ≤ b5 ∧ b5 < 256 := h4.get 5
    have q6 : 0 ≤ b6 ∧ b6 < 256 := h4.get 6
    have q7 : 0 ≤ b7 ∧ b7 < 256 := h4.get 7
    have q8 : 0 ≤ b8 ∧ b8 < 256 := h4.get 8
    have q9 : 0 ≤ b9 ∧ b9 < 256 := h4.get 9
    have q10 : 0 ≤ b10 ∧ b10 < 256 := h4.get 10
    have q11 : 0 ≤ b11 ∧ b11 < 256 := h4.get 11
    have q12 : 0 ≤ b12 ∧ b12 < 256 := h4.get 12
    have q13 : 0 ≤ b13 ∧ b13 < 256 := h4.get 13
    have q14 : 0 ≤ b14 ∧ b14 < 256 := h4.get 14
    have q15 : 0 ≤ b15 ∧ b15 < 256 := h4.get 15
    refine small_drop (small_of (R := R43 a0 a1 a2 a3 a4 a5 a6 a7 a8 a9 a10 a11 a12 a13 a14 a15 b0 b1 b2 b3 b4 b5 b6 b7 b8 b9 b10 b11 b12 b13 b14 b15) eA0_ok hmA (f := 43) (fn := f43) (by kernel_rfl) (by kernel_rfl) FnOrc.nil rfl (R43_ok ?_) R43_val R43_tab)
    simp only [allP, Con.h, nn8, eq_self, true_and, and_true]
    omega
  · exact absurd hc nofail
def S43 : Summary := callR sm43 []
theorem S43_ok : SumOk prog (fun _ => none) 43 S43 := callR_ok sm43_ok []

def sm44 : Summary := fun args T => match args, T with
  | [.ints .u8 s, .var 0 g], [some ⟨.ints .u8 tb, g', ow, 72⟩] => ⟨[.eqN g g', .eqN s.length 16, .p (Bytes s), .p (tb = TABLaw)], .ints .u8 (boxedLaw s), [some ⟨.ints .u8 tb, g', ow, 72⟩]⟩
  | _, _ => fail
theorem sm44_ok : SmOk prog (fun _ => none) 44 sm44 := by
  intro args T hc
  unfold sm44 at hc ⊢
  split at hc
  · obtain ⟨h1, h2, h3, h4, _⟩ := hc
    simp only [Con.h] at h1 h2 h3 h4
    subst h1 h4
    obtain ⟨a0, a1, a2, a3, a4, a5, a6, a7, a8, a9, a10, a11, a12, a13, a14, a15, rfl⟩ := list16 h2
    have p0 : 0 ≤ a0 ∧ a0 < 256 := h3.get 0
    have p1 : 0 ≤ a1 ∧ a1 < 256 := h3.get 1
    have p2 : 0 ≤ a2 ∧ a2 < 256 := h3.get 2
    have p3 : 0 ≤ a3 ∧ a3 < 256 := h3.get 3
    have p4 : 0 ≤ a4 ∧ a4 < 256 := h3.get 4
    have p5 : 0 ≤ a5 ∧ a5 < 256 := h3.get 5
    have p6 : 0 ≤ a6 ∧ a6 < 256 := h3.get 6
    have p7 : 0 ≤ a7 ∧ a7 < 256 := h3.get 7
    have p8 : 0 ≤ a8 ∧ a8 < 256 := h3.get 8
    have p9 : 0 ≤ a9 ∧ a9 < 256 := h3.get 9
    have p10 : 0 ≤ a10 ∧ a10 < 256 := h3.get 10
    have p11 : 0 ≤ a11 ∧ a11 < 256 := h3.get 11
    have p12 : 0 ≤ a12 ∧ a12 < 256 := h3.get 12
    have p13 : 0 ≤ a13 ∧ a13 < 256 := h3.get 13
    have p14 : 0 ≤ a14 ∧ a14 < 256 := h3.get 14
    have p15 : 0 ≤ a15 ∧ a15 < 256 := h3.get 15
    have hl := TABLaw_len
    have e : boxedLaw [a0, a1, a2, a3, a4, a5, a6, a7, a8, a9, a10, a11, a12, a13, a14, a15] = _ := congr16 (tab_box p0).symm (tab_box p1).symm (tab_box p2).symm (tab_box p3).symm (tab_box p4).symm (tab_box p5).symm (tab_box p6).symm (tab_box p7).symm (tab_box p8).symm (tab_box p9).symm (tab_box p10).symm (tab_box p11).symm (tab_box p12).symm (tab_box p13).symm (tab_box p14).symm (tab_box p15).symm
    refine e ▸ small_drop (small_of (R := R44 a0 a1 a2 a3 a4 a5 a6 a7 a8 a9 a10 a11 a12 a13 a14 a15 TABLaw _ _) eA0_ok hmA (f := 44) (fn := f44) (by kernel_rfl) (by kernel_rfl) FnOrc.nil rfl (R44_ok ?_) R44_val R44_tab)
    simp only [allP, Con.h, hl, eq_self, true_and, and_true]
    omega
  · exact absurd hc nofail
def S44 : Summary := callR sm44 []
theorem S44_ok : SumOk prog (fun _ => none) 44 S44 := callR_ok sm44_ok []

def mulOkLaw (y : Int) : Bool := decide (y = 1) || decide (y = 2) || decide (y = 3) || decide (y = 9) || decide (y = 11) || decide (y = 13) || decide (y = 14)
def sm78 : Summary := fun args T => match args, T with
  | [.int .u8 x, .int .u8 y], [] => ⟨[.rng 0 x 255, .tt (mulOkLaw y)], .int .u8 (timesLaw y x), []⟩
  | _, _ => fail
theorem times_1 : ∀ x : Int, 0 ≤ x ∧ x < 256 → timesLaw 1 x = ixor 0 x := by
  have : ((List.range 256).all fun n : Nat => (fun x : Int => timesLaw 1 x == ixor 0 x) n) = true := by kernel_rfl
  intro x hx
  obtain ⟨n, rfl⟩ := Int.eq_ofNat_of_zero_le hx.1
  simpa using List.all_eq_true.1 this n (List.mem_range.2 (by omega))
theorem times_2 : ∀ x : Int, 0 ≤ x ∧ x < 256 → timesLaw 2 x = ixor 0 (dblLaw x) := by
  have : ((List.range 256).all fun n : Nat => (fun x : Int => timesLaw 2 x == ixor 0 (dblLaw x)) n) = true := by kernel_rfl
  intro x hx
  obtain ⟨n, rfl⟩ := Int.eq_ofNat_of_zero_le hx.1
  simpa using List.all_eq_true.1 this n (List.mem_range.2 (by omega))
theorem times_3 : ∀ x : Int, 0 ≤ x ∧ x < 256 → timesLaw 3 x = ixor (ixor 0 x) (dblLaw x) := by
  have : ((List.range 256).all fun n : Nat => (fun x : Int => timesLaw 3 x == ixor (ixor 0 x) (dblLaw x)) n) = true := by kernel_rfl
  intro x hx
  obtain ⟨n, rfl⟩ := Int.eq_ofNat_of_zero_le hx.1
  simpa using List.all_eq_true.1 this n (List.mem_range.2 (by omega))
theorem times_9 : ∀ x : Int, 0 ≤ x ∧ x < 256 → timesLaw 9 x = ixor (ixor 0 x) (dblLaw (dblLaw (dblLaw x))) := by
  have : ((List.range 256).all fun n : Nat => (fun x : Int => timesLaw 9 x == ixor (ixor 0 x) (dblLaw (dblLaw (dblLaw x)))) n) = true := by kernel_rfl
  intro x hx
  obtain ⟨n, rfl⟩ := Int.eq_ofNat_of_zero_le hx.1
  simpa using List.all_eq_true.1 this n (List.mem_range.2 (by omega))
theorem times_11 : ∀ x : Int, 0 ≤ x ∧ x < 256 → timesLaw 11 x = ixor (ixor (ixor 0 x) (dblLaw x)) (dblLaw (dblLaw (dblLaw x))) := by
  have : ((List.range 256).all fun n : Nat => (fun x : Int => timesLaw 11 x == ixor (ixor (ixor 0 x) (dblLaw x)) (dblLaw (dblLaw (dblLaw x)))) n) = true := by kernel_rfl
  intro x hx
  obtain ⟨n, rfl⟩ := Int.eq_ofNat_of_zero_le hx.1
  simpa using List.all_eq_true.1 this n (List.mem_range.2 (by omega))
theorem times_13 : ∀ x : Int, 0 ≤ x ∧ x < 256 → timesLaw 13 x = ixor (ixor (ixor 0 x) (dblLaw (dblLaw x))) (dblLaw (dblLaw (dblLaw x))) := by
  have : ((List.range 256).all fun n : Nat => (fun x : Int => timesLaw 13 x == ixor (ixor (ixor 0 x) (dblLaw (dblLaw x))) (dblLaw (dblLaw (dblLaw x)))) n) = true := by kernel_rfl
  intro x hx
  obtain ⟨n, rfl⟩ := Int.eq_ofNat_of_zero_le hx.1
  simpa using List.all_eq_true.1 this n (List.mem_range.2 (by omega))
theorem times_14 : ∀ x : Int, 0 ≤ x ∧ x < 256 → timesLaw 14 x = ixor (ixor (ixor 0 (dblLaw x)) (dblLaw (dblLaw x))) (dblLaw (dblLaw (dblLaw x))) := by
  have : ((List.range 256).all fun n : Nat => (fun x : Int => timesLaw 14 x == ixor (ixor (ixor 0 (dblLaw x)) (dblLaw (dblLaw x))) (dblLaw (dblLaw (dblLaw x)))) n) = true := by kernel_rfl
  intro x hx
  obtain ⟨n, rfl⟩ := Int.eq_ofNat_of_zero_le hx.1
  simpa using List.all_eq_true.1 this n (List.mem_range.2 (by omega))
theorem sm78_ok : SmOk prog (fun _ => none) 78 sm78 := by
  intro args T hc
  unfold sm78 at hc ⊢
  split at hc
  · rename_i x y
    obtain ⟨h1, h2, _⟩ := hc
    simp only [Con.h] at h1 h2
    have hx : 0 ≤ x ∧ x < 256 := by omega
    have d1 := dblLaw_lt (x := x)
    have d2 := dblLaw_lt (x := dblLaw x)
    have d3 := dblLaw_lt (x := dblLaw (dblLaw x))
    have z : (0 : Int) ≤ 0 ∧ (0 : Int) < 256 := by omega
    have hy : y = 1 ∨ y = 2 ∨ y = 3 ∨ y = 9 ∨ y = 11 ∨ y = 13 ∨ y = 14 := by
      simp only [mulOkLaw, Bool.or_eq_true, decide_eq_true_eq] at h2; omega
    simp only
    rcases hy with rfl | rfl | rfl | rfl | rfl | rfl | rfl
    · rw [times_1 x hx]
      refine small_of (R := R78_1 x) eM0_ok hmA (f := 78) (fn := f78) (by kernel_rfl) (by kernel_rfl) FnOrc.nil rfl (R78_1_ok ?_) R78_1_val R78_1_tab
      simp only [allP, Con.h, and_true]
      repeat' with_reducible apply And.intro
      all_goals first | omega | skip
      all_goals repeat' (first | exact nn8.2 hx | exact nn8.2 d1 | exact nn8.2 d2 | exact nn8.2 d3 | exact nn8.2 z | apply nn_xor)
    · rw [times_2 x hx]
      refine small_of (R := R78_2 x) eM0_ok hmA (f := 78) (fn := f78) (by kernel_rfl) (by kernel_rfl) FnOrc.nil rfl (R78_2_ok ?_) R78_2_val R78_2_tab
      simp only [allP, Con.h, and_true]
      repeat' with_reducible apply And.intro
      all_goals first | omega | skip
      all_goals repeat' (first | exact nn8.2 hx | exact nn8.2 d1 | exact nn8.2 d2 | exact nn8.2 d3 | exact nn8.2 z | apply nn_xor)
    · rw [times_3 x hx]
      refine small_of (R := R78_3 x) eM0_ok hmA (f := 78) (fn := f78) (by kernel_rfl) (by kernel_rfl) FnOrc.nil rfl (R78_3_ok ?_) R78_3_val R78_3_tab
      simp only [allP, Con.h, and_true]
      repeat' with_reducible apply And.intro
      all_goals first | omega | skip
      all_goals repeat' (first | exact nn8.2 hx | exact nn8.2 d1 | exact nn8.2 d2 | exact nn8.2 d3 | exact nn8.2 z | apply nn_xor)
    · rw [times_9 x hx]
      refine small_of (R := R78_9 x) eM0_ok hmA (f := 78) (fn := f78) (by kernel_rfl) (by kernel_rfl) FnOrc.nil rfl (R78_9_ok ?_) R78_9_val R78_9_tab
      simp only [allP, Con.h, and_true]
      repeat' with_reducible apply And.intro
      all_goals first | omega | skip
      all_goals repeat' (first | exact nn8.2 hx | exact nn8.2 d1 | exact nn8.2 d2 | exact nn8.2 d3 | exact nn8.2 z | apply nn_xor)
    · rw [times_11 x hx]
      refine small_of (R := R78_11 x) eM0_ok hmA (f := 78) (fn := f78) (by kernel_rfl) (by kernel_rfl) FnOrc.nil rfl (R78_11_ok ?_) R78_11_val R78_11_tab
      simp only [allP, Con.h, and_true]
      repeat' with_reducible apply And.intro
      all_goals first | omega | skip
      all_goals repeat' (first | exact nn8.2 hx | exact nn8.2 d1 | exact nn8.2 d2 | exact nn8.2 d3 | exact nn8.2 z | apply nn_xor)
    · rw [times_13 x hx]
      refine small_of (R := R78_13 x) eM0_ok hmA (f := 78) (fn := f78) (by kernel_rfl) (by kernel_rfl) FnOrc.nil rfl (R78_13_ok ?_) R78_13_val R78_13_tab
      simp only [allP, Con.h, and_true]
      repeat' with_reducible apply And.intro
      all_goals first | omega | skip
      all_goals repeat' (first | exact nn8.2 hx | exact nn8.2 d1 | exact nn8.2 d2 | exact nn8.2 d3 | exact nn8.2 z | apply nn_xor)
    · rw [times_14 x hx]
      refine small_of (R := R78_14 x) eM0_ok hmA (f := 78) (fn := f78) (by kernel_rfl) (by kernel_rfl) FnOrc.nil rfl (R78_14_ok ?_) R78_14_val R78_14_tab
      simp only [allP, Con.h, and_true]
      repeat' with_reducible apply And.intro
      all_goals first | omega | skip
      all_goals repeat' (first | exact nn8.2 hx | exact nn8.2 d1 | exact nn8.2 d2 | exact nn8.2 d3 | exact nn8.2 z | apply nn_xor)
  · exact absurd hc nofail
def S78 : Summary := callR sm78 []
theorem S78_ok : SumOk prog (fun _ => none) 78 S78 := callR_ok sm78_ok []
end Go.Abs

set_option linter.unusedVariables false
set_option linter.unusedSimpArgs false
set_option maxRecDepth 8000
namespace Go.Abs
open Go.Proofs.Try
/-! ### columns -/
def accLaw (m s : List Int) (i : Nat) : Nat → Int
  | 0 => 0
  | k + 1 => ixor (accLaw m s i k) (timesLaw (m.getD ((k + 4 - i % 4) % 4) 0) (s.getD (i / 4 * 4 + k) 0))
def stLaw (m s : List Int) (i k : Nat) : List Int := l16 fun j => if j < i then accLaw m s j 4 else if j = i then accLaw m s i k else 0
theorem l16_set (f : Nat → Int) (v : Int) : ∀ i, i < 16 → (l16 f).set i v = l16 fun j => if j = i then v else f j := by
  intro i hi
  match i, hi with
  | 0, _ => rfl | 1, _ => rfl | 2, _ => rfl | 3, _ => rfl | 4, _ => rfl | 5, _ => rfl | 6, _ => rfl | 7, _ => rfl
  | 8, _ => rfl | 9, _ => rfl | 10, _ => rfl | 11, _ => rfl | 12, _ => rfl | 13, _ => rfl | 14, _ => rfl | 15, _ => rfl
  | n + 16, h => exact absurd h (by omega)
theorem stLaw_len (m s : List Int) (i k : Nat) : (stLaw m s i k).length = 16 := rfl
theorem stLaw_get {m s : List Int} {i k : Nat} (hi : i < 16) : (stLaw m s i k).getD i 0 = accLaw m s i k := by
  unfold stLaw; rw [l16_get _ _ hi, if_neg (by omega), if_pos rfl]
theorem stLaw_step {m s : List Int} {i k : Nat} (hi : i < 16) : (stLaw m s i k).set i (ixor ((stLaw m s i k).getD i 0) (timesLaw (m.getD ((k + 4 - i % 4) % 4) 0) (s.getD (i / 4 * 4 + k) 0))) = stLaw m s i (k + 1) := by
  rw [stLaw_get hi]
  show (stLaw m s i k).set i (accLaw m s i (k + 1)) = _
  unfold stLaw
  rw [l16_set _ _ _ hi]
  refine l16_congr fun j hj => ?_
  by_cases e : j = i
  · subst e; rw [if_pos rfl, if_neg (by omega), if_pos rfl]
  · rw [if_neg e, if_neg e, if_neg e]
theorem stLaw_next (m s : List Int) (i : Nat) : stLaw m s (i + 1) 0 = stLaw m s i 4 := by
  unfold stLaw
  refine l16_congr fun j hj => ?_
  by_cases e : j < i
  · rw [if_pos e, if_pos (by omega)]
  · by_cases e2 : j = i
    · subst e2; rw [if_pos (by omega), if_neg e, if_pos rfl]
    · rw [if_neg (by omega), if_neg e, if_neg e2]; split <;> rfl
theorem stLaw_zero (m s : List Int) : stLaw m s 0 0 = List.replicate 16 0 := by
  show _ = l16 fun _ => 0
  unfold stLaw
  exact l16_congr fun j hj => by rw [if_neg (by omega)]; split <;> rfl
theorem stLaw_end (m s : List Int) : stLaw m s 15 4 = mixByLaw timesLaw m s := by
  rw [← stLaw_next]
  unfold stLaw mixByLaw
  exact l16_congr fun j hj => by rw [if_pos hj]; rfl
def mOk (m : List Int) : Prop := ∀ j, j < 4 → mulOkLaw (m.getD j 0) = true ∧ 0 ≤ m.getD j 0 ∧ m.getD j 0 < 256
theorem mOk_a : mOk [2, 3, 1, 1] := by
  intro j hj
  match j, hj with
  | 0, _ => exact ⟨by decide, by decide, by decide⟩ | 1, _ => exact ⟨by decide, by decide, by decide⟩ | 2, _ => exact ⟨by decide, by decide, by decide⟩ | 3, _ => exact ⟨by decide, by decide, by decide⟩
theorem mOk_b : mOk [14, 11, 13, 9] := by
  intro j hj
  match j, hj with
  | 0, _ => exact ⟨by decide, by decide, by decide⟩ | 1, _ => exact ⟨by decide, by decide, by decide⟩ | 2, _ => exact ⟨by decide, by decide, by decide⟩ | 3, _ => exact ⟨by decide, by decide, by decide⟩
theorem accLaw_rng {m s : List Int} (hm : mOk m) (i : Nat) : ∀ k, 0 ≤ accLaw m s i k ∧ accLaw m s i k < 256
  | 0 => by simp [accLaw]
  | k + 1 => ixor_lt8 (accLaw_rng hm i k) (timesLaw_lt (hm _ (Nat.mod_lt _ (by decide))).2)
theorem stLaw_bytes {m s : List Int} (hm : mOk m) (i k : Nat) : Bytes (stLaw m s i k) := l16_bytes fun j _ => by
  split
  · exact accLaw_rng hm _ _
  · split
    · exact accLaw_rng hm _ _
    · decide
theorem rem_idx {i k : Nat} (hk : k < 4) : ((k : Int) - (i : Int).tmod 4 + 4).tmod 4 = (((k + 4 - i % 4) % 4 : Nat) : Int) := by
  have e : (i : Int).tmod 4 = ((i % 4 : Nat) : Int) := by rw [Int.tmod_eq_emod_of_nonneg (by omega)]; omega
  rw [e, Int.tmod_eq_emod_of_nonneg (by omega)]
  omega
theorem andn_idx : ∀ i : Nat, i < 16 → iandNot .i64 (i : Int) 3 = ((i / 4 * 4 : Nat) : Int) := by
  intro i hi
  match i, hi with
  | 0, _ => rfl | 1, _ => rfl | 2, _ => rfl | 3, _ => rfl | 4, _ => rfl | 5, _ => rfl | 6, _ => rfl | 7, _ => rfl
  | 8, _ => rfl | 9, _ => rfl | 10, _ => rfl | 11, _ => rfl | 12, _ => rfl | 13, _ => rfl | 14, _ => rfl | 15, _ => rfl
  | n + 16, h => exact absurd h (by omega)
noncomputable def eM1 : Env := eA [(78, S78)]
theorem eM1_ok : EnvOk eM1 := envOf_ok tysA_ok (SumsOk.cons (fn := f78) S78_ok (by kernel_rfl) (by kernel_rfl) (by kernel_rfl) trivial)
noncomputable def C69 (i j k : Int) (s m z xs : List Int) : Out := trim 4 4 [2,3,4,5,6,8,11] (run eM1 37 ⟨4, []⟩ 400 (roundOf 2 f69) [(2, .var 0 0), (3, .var 1 0), (4, .var 2 0), (5, .var 3 0), (6, .int .i64 i), (8, .int .i64 j), (11, .int .i64 k)] [some ⟨.ints .u8 s, 0, true, 48⟩, some ⟨.ints .u8 m, 0, true, 74⟩, some ⟨.ints .u8 z, 0, true, 48⟩, some ⟨.ints .u8 xs, 0, true, 48⟩] [some true])
theorem C69_ok {i j k : Int} {s m z xs : List Int} (h : allP [.p (decide (k < 4) = true), .leI 0 i, .leI (i + 1) 16, .leI 0 i, .leI (i + 1) 16, .leN (i.toNat + 1) xs.length, .leN (i.toNat + 1) xs.length, .nn .i64 i, .rng (-9223372036854775808) (iandNot .i64 i 3 + k) 9223372036854775807, .leI 0 (iandNot .i64 i 3 + k), .leI (iandNot .i64 i 3 + k + 1) 16, .leN ((iandNot .i64 i 3 + k).toNat + 1)
 s.length, .rng (-9223372036854775808) (k - i.tmod 4) 9223372036854775807, .rng (-9223372036854775808) (k - i.tmod 4 + 4) 9223372036854775807, .leI 0 ((k - i.tmod 4 + 4).tmod 4), .leI ((k - i.tmod 4 + 4).tmod 4 + 1) 4, .leN (((k - i.tmod 4 + 4).tmod 4).toNat + 1) m.length, .rng 0 (s.getD (iandNot .i64 i 3 + k).toNat 0) 255, .tt (mulOkLaw (m.getD ((k - i.tmod 4 + 4).tmod 4).toNat 0)), .nn .u8
 (xs.getD i.toNat 0), .nn .u8 (timesLaw (m.getD ((k - i.tmod 4 + 4).tmod 4).toNat 0) (s.getD (iandNot .i64 i 3 + k).toNat 0)), .leI 0 i, .leI (i + 1) 16, .leN (i.toNat + 1) xs.length, .rng (-9223372036854775808) (k + 1) 9223372036854775807]) : Ok (C69 i j k s m z xs) := Ok.dem (fl := bitsF 46 12646073046304) (by kernel_rfl) (by kernel_rfl) (by kernel_rfl) h
theorem C69_ex {i j k : Int} {s m z xs : List Int} : (C69 i j k s m z xs).ex = .normal := by kernel_rfl
theorem C69_fm {i j k : Int} {s m z xs : List Int} : (C69 i j k s m z xs).fm = [(2, .var 0 0), (3, .var 1 0), (4, .var 2 0), (5, .var 3 0), (6, .int .i64 i), (8, .int .i64 j), (11, .int .i64 (k + 1))] := by kernel_rfl
theorem C69_tab {i j k : Int} {s m z xs : List Int} : (C69 i j k s m z xs).tab = [some ⟨.ints .u8 s, 0, true, 48⟩, some ⟨.ints .u8 m, 0, true, 74⟩, some ⟨.ints .u8 z, 0, true, 48⟩, some ⟨.ints .u8 (xs.set i.toNat (ixor (xs.getD i.toNat 0) (timesLaw (m.getD ((k - i.tmod 4 + 4).tmod 4).toNat 0) (s.getD (iandNot .i64 i 3 + k).toNat 0)))), 0, true, 48⟩] := by kernel_rfl
noncomputable def D69 (i j k : Int) (s m z xs : List Int) : Out := trim 4 4 [2,3,4,5,6,8] (run eM1 37 ⟨4, []⟩ 400 (roundOf 2 f69) [(2, .var 0 0), (3, .var 1 0), (4, .var 2 0), (5, .var 3 0), (6, .int .i64 i), (8, .int .i64 j), (11, .int .i64 k)] [some ⟨.ints .u8 s, 0, true, 48⟩, some ⟨.ints .u8 m, 0, true, 74⟩, some ⟨.ints .u8 z, 0, true, 48⟩, some ⟨.ints .u8 xs, 0, true, 48⟩] [some false])
theorem D69_ok {i j k : Int} {s m z xs : List Int} (h : allP [.p (decide (k < 4) = false)]) : Ok (D69 i j k s m z xs) := Ok.dem (fl := [false]) (by kernel_rfl) (by kernel_rfl) (by kernel_rfl) h
theorem D69_ex {i j k : Int} {s m z xs : List Int} : (D69 i j k s m z xs).ex = .exit 2 := by kernel_rfl
theorem D69_fm {i j k : Int} {s m z xs : List Int} : (D69 i j k s m z xs).fm = [(2, .var 0 0), (3, .var 1 0), (4, .var 2 0), (5, .var 3 0), (6, .int .i64 i), (8, .int .i64 j)] := by kernel_rfl
theorem D69_tab {i j k : Int} {s m z xs : List Int} : (D69 i j k s m z xs).tab = [some ⟨.ints .u8 s, 0, true, 48⟩, some ⟨.ints .u8 m, 0, true, 74⟩, some ⟨.ints .u8 z, 0, true, 48⟩, some ⟨.ints .u8 xs, 0, true, 48⟩] := by kernel_rfl
def F69 (i : Nat) (j : Int) (k : Nat) : Fm := [(2, .var 0 0), (3, .var 1 0), (4, .var 2 0), (5, .var 3 0), (6, .int .i64 i), (8, .int .i64 j), (11, .int .i64 k)]
def T69 (s m z : List Int) (i k : Nat) : Tab := [some ⟨.ints .u8 s, 0, true, 48⟩, some ⟨.ints .u8 m, 0, true, 74⟩, some ⟨.ints .u8 z, 0, true, 48⟩, some ⟨.ints .u8 (stLaw m s i k), 0, true, 48⟩]
theorem loop69 {s m z : List Int} (hs : s.length = 16) (hb : Bytes s) (hml : m.length = 4) (hm : mOk m) {i : Nat} (hi : i < 16) {j : Int} :
    To eM1 37 4 (.block 2 (.loop (roundOf 2 f69))) (F69 i j 0) (T69 s m z i 0) .normal [(2, .var 0 0), (3, .var 1 0), (4, .var 2 0), (5, .var 3 0), (6, .int .i64 i), (8, .int .i64 j)] (T69 s m z i 4) := by
  refine To.rounds (F69 i j) (T69 s m z i) 4 (fun k hk => ?_) ?_
  · have hl := stLaw_len m s i k
    have hx := (stLaw_bytes (s := s) hm i k).get i
    have q1 := hm ((k + 4 - i % 4) % 4) (Nat.mod_lt _ (by decide))
    have q2 := timesLaw_lt (b := s.getD (i / 4 * 4 + k) 0) q1.2
    have q3 := hb.get (i / 4 * 4 + k)
    have e2 : (((i / 4 * 4 : Nat) : Int) + k).toNat = i / 4 * 4 + k := by omega
    have e3 : (k + 4 - i % 4) % 4 < 4 := Nat.mod_lt _ (by decide)
    refine To.of (o := C69 i j k s m z (stLaw m s i k)) eM1_ok hmA (Nat.le_refl 4) OrcOk.nil rfl (C69_ok ?_) C69_ex ?_ ?_
    · rw [andn_idx i hi, rem_idx hk, e2, Int.toNat_natCast, Int.toNat_natCast]
      simp only [allP, Con.h, hl, hs, hml, nn8, decide_eq_true_eq, and_true]
      generalize (k + 4 - i % 4) % 4 = jj at *
      have n1 : nonneg .i64 (i : Int) := ⟨by omega, by omega⟩
      have e5 : (i : Int).tmod 4 = ((i % 4 : Nat) : Int) := by rw [Int.tmod_eq_emod_of_nonneg (by omega)]; omega
      rw [e5]
      repeat' with_reducible apply And.intro
      all_goals first | omega | exact q1.1 | exact n1 | skip
    · rw [C69_fm]; rfl
    · rw [C69_tab, andn_idx i hi, rem_idx hk, e2, Int.toNat_natCast, Int.toNat_natCast, stLaw_step hi]; rfl
  · exact To.of (o := D69 i j (4 : Nat) s m z (stLaw m s i 4)) eM1_ok hmA (Nat.le_refl 4) OrcOk.nil rfl (D69_ok (by simp [allP, Con.h])) D69_ex D69_fm D69_tab
def g69 : List AVal → Tab → Out := fun vs T => match vs, T with
  | [.var 0 0, .var 1 0, .var 2 0, .var 3 0, .int .i64 i, .int .i64 j, .int .i64 k], [some ⟨.ints .u8 s, 0, true, 48⟩, some ⟨.ints .u8 m, 0, true, 74⟩, some ⟨.ints .u8 z, 0, true, 48⟩, some ⟨.ints .u8 xs, 0, true, 48⟩] =>
    ⟨[.rng 0 k 0, .rng 0 i 15, .eqN s.length 16, .eqN m.length 4, .p (Bytes s), .p (mOk m), .p (xs = stLaw m s i.toNat 0)], .normal, [(2, .var 0 0), (3, .var 1 0), (4, .var 2 0), (5, .var 3 0), (6, .int .i64 i), (8, .int .i64 j)],
      [some ⟨.ints .u8 s, 0, true, 48⟩, some ⟨.ints .u8 m, 0, true, 74⟩, some ⟨.ints .u8 z, 0, true, 48⟩, some ⟨.ints .u8 (stLaw m s i.toNat 4), 0, true, 48⟩], []⟩
  | _, _ => failO
theorem g69_ok : BlkOk eM1 f69 2 (.loop (roundOf 2 f69)) (blkS 4 [2,3,4,5,6,8,11] g69) := by
  refine blkS_ok fun vs T h => ?_
  unfold g69 at h ⊢
  split at h
  · rename_i i j k s m z xs
    obtain ⟨h1, h2, h3, h4, h5, h6, h7, _⟩ := h.h
    simp only [Con.h] at h1 h2 h3 h4 h5 h6 h7
    obtain rfl : k = 0 := by omega
    obtain ⟨n, rfl⟩ : ∃ n : Nat, i = n := ⟨i.toNat, by omega⟩
    rw [Int.toNat_natCast] at h7
    subst h7
    exact loop69 h3 h5 h4 h6 (by omega)
  · exact absurd h nofailO
noncomputable def orc69 : OrcL := [(2, blkS 4 [2,3,4,5,6,8,11] g69)]
theorem orc69_ok : FnOrc eM1 f69 orc69 := FnOrc.cons g69_ok (by kernel_rfl) FnOrc.nil
noncomputable def R69 (s m : List Int) : Res := runF eM1 f69 orc69 2000 [.ints .u8 s, .ints .u8 m] [] []
theorem R69_ok {s m : List Int} (h : allP [.eqN s.length 16, .eqN m.length 4, .p (Bytes s), .p (mOk m), .p ([0, 0, 0, 0, 0, 0, 0, 0, 0, 0, 0, 0, 0, 0, 0, 0] = stLaw m s 0 0), .eqN s.length 16, .eqN m.length 4, .p (Bytes s), .p (mOk m), .p (stLaw m s 0 4 = stLaw m s 1 0), .eqN s.length 16, .eqN m.length 4, .p (Bytes s), .p (mOk m), .p (stLaw m s 1 4 = stLaw m s 2 0), .eqN s.length 16, .eqN m.length
 4, .p (Bytes s), .p (mOk m), .p (stLaw m s 2 4 = stLaw m s 3 0), .eqN s.length 16, .eqN m.length 4, .p (Bytes s), .p (mOk m), .p (stLaw m s 3 4 = stLaw m s 4 0), .eqN s.length 16, .eqN m.length 4, .p (Bytes s), .p (mOk m), .p (stLaw m s 4 4 = stLaw m s 5 0), .eqN s.length 16, .eqN m.length 4, .p (Bytes s), .p (mOk m), .p (stLaw m s 5 4 = stLaw m s 6 0), .eqN s.length 16, .eqN m.length 4, .p (Bytes
 s), .p (mOk m), .p (stLaw m s 6 4 = stLaw m s 7 0), .eqN s.length 16, .eqN m.length 4, .p (Bytes s), .p (mOk m), .p (stLaw m s 7 4 = stLaw m s 8 0), .eqN s.length 16, .eqN m.length 4, .p (Bytes s), .p (mOk m), .p (stLaw m s 8 4 = stLaw m s 9 0), .eqN s.length 16, .eqN m.length 4, .p (Bytes s), .p (mOk m), .p (stLaw m s 9 4 = stLaw m s 10 0), .eqN s.length 16, .eqN m.length 4, .p (Bytes s), .p (mOk
 m), .p (stLaw m s 10 4 = stLaw m s 11 0), .eqN s.length 16, .eqN m.length 4, .p (Bytes s), .p (mOk m), .p (stLaw m s 11 4 = stLaw m s 12 0), .eqN s.length 16, .eqN m.length 4, .p (Bytes s), .p (mOk m), .p (stLaw m s 12 4 = stLaw m s 13 0), .eqN s.length 16, .eqN m.length 4, .p (Bytes s), .p (mOk m), .p (stLaw m s 13 4 = stLaw m s 14 0), .eqN s.length 16, .eqN m.length 4, .p (Bytes s), .p (mOk m),
 .p (stLaw m s 14 4 = stLaw m s 15 0)]) : OkR (R69 s m) := OkR.dem (fl := bitsF 136 86946815290590849119292689889507017982851) (by kernel_rfl) (by kernel_rfl) (by kernel_rfl) h
theorem R69_val {s m : List Int} : (R69 s m).val = .ints .u8 (stLaw m s 15 4) := by kernel_rfl
theorem R69_tab {s m : List Int} : (R69 s m).tab = [some ⟨.ints .u8 s, 0, true, 48⟩, some ⟨.ints .u8 m, 0, true, 74⟩, some ⟨.ints .u8 (stLaw m s 15 4), 0, true, 48⟩, some ⟨.ints .u8 (stLaw m s 15 4), 0, true, 48⟩] := by kernel_rfl
end Go.Abs

set_option linter.unusedVariables false
set_option linter.unusedSimpArgs false
set_option maxRecDepth 8000
namespace Go.Abs
open Go.Proofs.Try
def colsLaw (m : List Int) : Prop := m = [2, 3, 1, 1] ∨ m = [14, 11, 13, 9]
def byLaw (n : Int) : Prop := n = 1 ∨ n = 3
theorem cols_a : colsLaw [2, 3, 1, 1] := .inl rfl
theorem cols_b : colsLaw [14, 11, 13, 9] := .inr rfl
theorem by_a : byLaw 1 := .inl rfl
theorem by_b : byLaw 3 := .inr rfl
def sm69 : Summary := fun args T => match args, T with
  | [.ints .u8 s, .ints .u8 m], [] => ⟨[.eqN s.length 16, .p (Bytes s), .p (colsLaw m)], .ints .u8 (mixByLaw timesLaw m s), []⟩
  | _, _ => fail
theorem mOk_of {m : List Int} (h : m = [2, 3, 1, 1] ∨ m = [14, 11, 13, 9]) : m.length = 4 ∧ mOk m := by
  rcases h with rfl | rfl
  · exact ⟨rfl, mOk_a⟩
  · exact ⟨rfl, mOk_b⟩
theorem sm69_ok : SmOk prog (fun _ => none) 69 sm69 := by
  intro args T hc
  unfold sm69 at hc ⊢
  split at hc
  · rename_i s m
    obtain ⟨h1, h2, h3, _⟩ := hc
    simp only [Con.h] at h1 h2 h3
    obtain ⟨hm, hk⟩ := mOk_of h3
    have z : [0, 0, 0, 0, 0, 0, 0, 0, 0, 0, 0, 0, 0, 0, 0, 0] = stLaw m s 0 0 := (stLaw_zero m s).symm
    have n := stLaw_next m s
    simp only
    rw [← stLaw_end]
    refine small_drop (small_of (R := R69 s m) eM1_ok hmA (f := 69) (fn := f69) (by kernel_rfl) (by kernel_rfl) orc69_ok rfl (R69_ok ?_) R69_val R69_tab)
    simp only [allP, Con.h, h1, hm, h2, hk, and_true, true_and]
    exact ⟨z, (n 0).symm, (n 1).symm, (n 2).symm, (n 3).symm, (n 4).symm, (n 5).symm, (n 6).symm, (n 7).symm, (n 8).symm, (n 9).symm, (n 10).symm, (n 11).symm, (n 12).symm, (n 13).symm, (n 14).symm⟩
  · exact absurd hc nofail
def S69 : Summary := callR sm69 []
theorem S69_ok : SumOk prog (fun _ => none) 69 S69 := callR_ok sm69_ok []
noncomputable def eM3 : Env := eA [(69, S69)]
theorem eM3_ok : EnvOk eM3 := envOf_ok tysA_ok (SumsOk.cons (fn := f69) S69_ok (by kernel_rfl) (by kernel_rfl) (by kernel_rfl) trivial)
def sm68 : Summary := fun args T => match args, T with
  | [.ints .u8 s, .int .i64 n], [] => ⟨[.eqN s.length 16, .p (byLaw n)], .ints .u8 (turnedLaw n.toNat s), []⟩
  | _, _ => fail
theorem sm68_ok : SmOk prog (fun _ => none) 68 sm68 := by
  intro args T hc
  unfold sm68 at hc ⊢
  split at hc
  · rename_i s n
    obtain ⟨h1, h2, _⟩ := hc
    simp only [Con.h] at h1 h2
    obtain ⟨a0, a1, a2, a3, a4, a5, a6, a7, a8, a9, a10, a11, a12, a13, a14, a15, rfl⟩ := list16 h1
    rcases h2 with rfl | rfl
    · exact small_drop (small_of (R := R68a a0 a1 a2 a3 a4 a5 a6 a7 a8 a9 a10 a11 a12 a13 a14 a15) eA0_ok hmA (f := 68) (fn := f68) (by kernel_rfl) (by kernel_rfl) FnOrc.nil rfl (R68a_ok (by first | trivial | (simp only [allP, Con.h]; omega))) R68a_val R68a_tab)
    · exact small_drop (small_of (R := R68b a0 a1 a2 a3 a4 a5 a6 a7 a8 a9 a10 a11 a12 a13 a14 a15) eA0_ok hmA (f := 68) (fn := f68) (by kernel_rfl) (by kernel_rfl) FnOrc.nil rfl (R68b_ok (by first | trivial | (simp only [allP, Con.h]; omega))) R68b_val R68b_tab)
  · exact absurd hc nofail
def S68 : Summary := callR sm68 []
theorem S68_ok : SumOk prog (fun _ => none) 68 S68 := callR_ok sm68_ok []
noncomputable def eM4 : Env := eA [(68, S68)]
theorem eM4_ok : EnvOk eM4 := envOf_ok tysA_ok (SumsOk.cons (fn := f68) S68_ok (by kernel_rfl) (by kernel_rfl) (by kernel_rfl) trivial)
theorem turned_bytes {n : Nat} {s : List Int} (h : Bytes s) : Bytes (turnedLaw n s) := l16_bytes fun i _ => h.get _
noncomputable def R46 (s tb : List Int) (g : Nat) (ow : Bool) : Res := runF eM3 f46 [] 400 [.ints .u8 s, .var 0 g] [some ⟨.ints .u8 tb, g, ow, 72⟩] []
theorem R46_ok {s tb : List Int} {g : Nat} {ow : Bool} (h : allP [.eqN s.length 16, .eqN s.length 16, .p (Bytes s), .p (colsLaw [2, 3, 1, 1])]) : OkR (R46 s tb g ow) := OkR.dem (fl := bitsF 19 517117) (by kernel_rfl) (by kernel_rfl) (by kernel_rfl) h
theorem R46_val {s tb : List Int} {g : Nat} {ow : Bool} : (R46 s tb g ow).val = .ints .u8 (mixByLaw timesLaw [2, 3, 1, 1] s) := by kernel_rfl
theorem R46_tab {s tb : List Int} {g : Nat} {ow : Bool} : (R46 s tb g ow).tab = [some ⟨.ints .u8 tb, g, ow, 72⟩, some ⟨.ints .u8 s, 0, true, 48⟩, some ⟨.ints .u8 (mixByLaw timesLaw [2, 3, 1, 1] s), 0, true, 48⟩] := by kernel_rfl
def sm46 : Summary := fun args T => match args, T with
  | [.ints .u8 s, .var 0 g], [some ⟨.ints .u8 tb, g', ow, 72⟩] => ⟨[.eqN g g', .eqN s.length 16, .p (Bytes s)], .ints .u8 (mixLaw s), [some ⟨.ints .u8 tb, g', ow, 72⟩]⟩
  | _, _ => fail
theorem sm46_ok : SmOk prog (fun _ => none) 46 sm46 := by
  intro args T hc
  unfold sm46 at hc ⊢
  split at hc
  · obtain ⟨h1, h2, h3, _⟩ := hc
    simp only [Con.h] at h1 h2 h3
    subst h1
    refine small_drop (small_of (R := R46 _ _ _ _) eM3_ok hmA (f := 46) (fn := f46) (by kernel_rfl) (by kernel_rfl) FnOrc.nil rfl (R46_ok ?_) R46_val R46_tab)
    simp [allP, Con.h, cols_a, cols_b, by_a, by_b, h2, h3]
  · exact absurd hc nofail
def S46 : Summary := callR sm46 []
theorem S46_ok : SumOk prog (fun _ => none) 46 S46 := callR_ok sm46_ok []
noncomputable def R45 (s tb : List Int) (g : Nat) (ow : Bool) : Res := runF eM4 f45 [] 400 [.ints .u8 s, .var 0 g] [some ⟨.ints .u8 tb, g, ow, 72⟩] []
theorem R45_ok {s tb : List Int} {g : Nat} {ow : Bool} (h : allP [.eqN s.length 16, .eqN s.length 16, .p (byLaw 1)]) : OkR (R45 s tb g ow) := OkR.dem (fl := [true, false, false, false, true, true, true, true, true, true]) (by kernel_rfl) (by kernel_rfl) (by kernel_rfl) h
theorem R45_val {s tb : List Int} {g : Nat} {ow : Bool} : (R45 s tb g ow).val = .ints .u8 (turnedLaw 1 s) := by kernel_rfl
theorem R45_tab {s tb : List Int} {g : Nat} {ow : Bool} : (R45 s tb g ow).tab = [some ⟨.ints .u8 tb, g, ow, 72⟩, some ⟨.ints .u8 s, 0, true, 48⟩, some ⟨.ints .u8 (turnedLaw 1 s), 0, true, 48⟩] := by kernel_rfl
def sm45 : Summary := fun args T => match args, T with
  | [.ints .u8 s, .var 0 g], [some ⟨.ints .u8 tb, g', ow, 72⟩] => ⟨[.eqN g g', .eqN s.length 16], .ints .u8 (turnedLaw 1 s), [some ⟨.ints .u8 tb, g', ow, 72⟩]⟩
  | _, _ => fail
theorem sm45_ok : SmOk prog (fun _ => none) 45 sm45 := by
  intro args T hc
  unfold sm45 at hc ⊢
  split at hc
  · obtain ⟨h1, h2, _⟩ := hc
    simp only [Con.h] at h1 h2
    subst h1
    refine small_drop (small_of (R := R45 _ _ _ _) eM4_ok hmA (f := 45) (fn := f45) (by kernel_rfl) (by kernel_rfl) FnOrc.nil rfl (R45_ok ?_) R45_val R45_tab)
    simp [allP, Con.h, cols_a, cols_b, by_a, by_b, h2]
  · exact absurd hc nofail
def S45 : Summary := callR sm45 []
theorem S45_ok : SumOk prog (fun _ => none) 45 S45 := callR_ok sm45_ok []
end Go.Abs

set_option linter.unusedVariables false
set_option linter.unusedSimpArgs false
set_option maxRecDepth 8000
namespace Go.Abs
open Go.Proofs.Try
end Go.Abs

set_option linter.unusedVariables false
set_option linter.unusedSimpArgs false
set_option maxRecDepth 8000
namespace Go.Abs
open Go.Proofs.Try
/-! ### what a block comes to -/
def encRLaw (ks s : List Int) (r : Nat) : List Int := plusLaw (if r = 10 then turnedLaw 1 (boxedLaw s) else mixLaw (turnedLaw 1 (boxedLaw s))) (subLaw ks (16 * r) 16)
def encLaw (ks s : List Int) : Nat → List Int
  | 0 => plusLaw s (subLaw ks 0 16)
  | r + 1 => encRLaw ks (encLaw ks s r) (r + 1)
def decRLaw (ks s : List Int) (r : Nat) : List Int := unboxedLaw (turnedLaw 3 (if r = 10 then plusLaw s (subLaw ks (16 * r) 16) else unmixLaw (plusLaw s (subLaw ks (16 * r) 16))))
def decLaw (ks s : List Int) : Nat → List Int
  | 0 => s
  | j + 1 => decRLaw ks (decLaw ks s j) (10 - j)
def blockLaw (ks s : List Int) : List Int := encLaw ks s 10
theorem plus_bytes {s k : List Int} (hs : Bytes s) (hk : Bytes k) : Bytes (plusLaw s k) := l16_bytes fun i _ => ixor_lt8 (hs.get i) (hk.get i)
theorem boxed_bytes {s : List Int} (hs : Bytes s) : Bytes (boxedLaw s) := l16_bytes fun i _ => boxLaw_rng (hs.get i)
theorem TAB_bytes : Bytes TABLaw := by
  have : ((List.range 512).all fun i => decide (0 ≤ TABLaw.getD i 0) && decide (TABLaw.getD i 0 < 256)) = true := by kernel_rfl
  intro i hi
  rw [TABLaw_len] at hi
  simpa using List.all_eq_true.1 this i (List.mem_range.2 hi)
theorem unboxed_bytes (s : List Int) : Bytes (unboxedLaw s) := l16_bytes fun i _ => TAB_bytes.get _
theorem mix_bytes (s : List Int) : Bytes (mixLaw s) := by
  show Bytes (mixByLaw timesLaw [2, 3, 1, 1] s); rw [← stLaw_end]; exact stLaw_bytes mOk_a 15 4
theorem sub_bytes {ks : List Int} (h : Bytes ks) (a n : Nat) : Bytes (subLaw ks a n) := (h.drop a).take n
theorem encR_bytes {ks s : List Int} (hk : Bytes ks) (hs : Bytes s) (r : Nat) : Bytes (encRLaw ks s r) := by
  unfold encRLaw
  refine plus_bytes ?_ (sub_bytes hk _ _)
  split
  · exact turned_bytes (boxed_bytes hs)
  · exact mix_bytes _
theorem enc_bytes {ks s : List Int} (hk : Bytes ks) (hs : Bytes s) : ∀ r, Bytes (encLaw ks s r)
  | 0 => plus_bytes hs (sub_bytes hk _ _)
  | r + 1 => encR_bytes hk (enc_bytes hk hs r) _
theorem enc_len (ks s : List Int) : ∀ r, (encLaw ks s r).length = 16
  | 0 => rfl
  | r + 1 => rfl
theorem decR_bytes (ks s : List Int) (r : Nat) : Bytes (decRLaw ks s r) := unboxed_bytes _
theorem dec_bytes {ks s : List Int} (hs : Bytes s) : ∀ j, Bytes (decLaw ks s j)
  | 0 => hs
  | j + 1 => decR_bytes _ _ _
theorem sub_eq (ks : List Int) (a n : Nat) : List.take n (dropO a ks) = subLaw ks a n := by rw [dropO_eq]; rfl
noncomputable def eP : Env := eA [(40, S40), (41, S41), (43, S43), (44, S44), (45, S45), (46, S46)]
theorem eP_ok : EnvOk eP := envOf_ok tysA_ok (SumsOk.cons (fn := f40) S40_ok (by kernel_rfl) (by kernel_rfl) (by kernel_rfl) (SumsOk.cons (fn := f41) S41_ok (by kernel_rfl) (by kernel_rfl) (by kernel_rfl) (SumsOk.cons (fn := f43) S43_ok (by kernel_rfl) (by kernel_rfl) (by kernel_rfl) (SumsOk.cons (fn := f44) S44_ok (by kernel_rfl) (by kernel_rfl) (by kernel_rfl) (SumsOk.cons (fn := f45) S45_ok (by kernel_rfl) (by kernel_rfl) (by kernel_rfl) (SumsOk.cons (fn := f46) S46_ok (by kernel_rfl) (by kernel_rfl) (by kernel_rfl) trivial))))))
noncomputable def A23 (r : Int) (s ks : List Int) (zs bs : List Int) (g0 g1 e1 : Nat) (ow0 ow1 : Bool) : Out := trim 5 5 [6,7,8,9] (run eP 57 ⟨5, []⟩ 400 (roundOf 0 f23) [(6, .var 2 0), (7, .var 3 0), (8, .var 4 0), (9, .int .i64 r)] [some ⟨.ints .u8 zs, g0, ow0, 5⟩, some ⟨.ints .u8 bs, g1, ow1, e1⟩, some ⟨.ints .u8 TABLaw, 0, true, 72⟩, some ⟨.ints .u8 ks, 0, true, 49⟩, some ⟨.ints .u8 s, 0, true, 48⟩] [some true, some false])
theorem A23_ok {r : Int} {s ks : List Int} {zs bs : List Int} {g0 g1 e1 : Nat} {ow0 ow1 : Bool} (h : allP [.p (decide (r < 11) = true), .p ((r == 10) = false), .eqN s.length 16, .eqN s.length 16, .p (Bytes s), .p (TABLaw = TABLaw), .eqN s.length 16, .p (Bytes (turnedLaw 1 (boxedLaw s))), .leI 0 r, .leI (r + 1) 11, .leN (r.toNat * 16 + 16) ks.length, .eqN (List.take 16 (dropO (r.toNat * 16)
 ks)).length 16, .p (Bytes (mixLaw (turnedLaw 1 (boxedLaw s)))), .p (Bytes (List.take 16 (dropO (r.toNat * 16) ks))), .rng (-9223372036854775808) (r + 1) 9223372036854775807]) : Ok (A23 r s ks zs bs g0 g1 e1 ow0 ow1) := Ok.dem (fl := bitsF 77 35521218822961155735294) (by kernel_rfl) (by kernel_rfl) (by kernel_rfl) h
theorem A23_ex {r : Int} {s ks : List Int} {zs bs : List Int} {g0 g1 e1 : Nat} {ow0 ow1 : Bool} : (A23 r s ks zs bs g0 g1 e1 ow0 ow1).ex = .normal := by kernel_rfl
theorem A23_fm {r : Int} {s ks : List Int} {zs bs : List Int} {g0 g1 e1 : Nat} {ow0 ow1 : Bool} : (A23 r s ks zs bs g0 g1 e1 ow0 ow1).fm = [(6, .var 2 0), (7, .var 3 0), (8, .var 4 0), (9, .int .i64 (r + 1))] := by kernel_rfl
theorem A23_tab {r : Int} {s ks : List Int} {zs bs : List Int} {g0 g1 e1 : Nat} {ow0 ow1 : Bool} : (A23 r s ks zs bs g0 g1 e1 ow0 ow1).tab = [some ⟨.ints .u8 zs, g0, ow0, 5⟩, some ⟨.ints .u8 bs, g1, ow1, e1⟩, some ⟨.ints .u8 TABLaw, 0, true, 72⟩, some ⟨.ints .u8 ks, 0, true, 49⟩, some ⟨.ints .u8 (plusLaw (mixLaw (turnedLaw 1 (boxedLaw s))) (List.take 16 (dropO (r.toNat * 16) ks))), 0, true, 48⟩] :=
 by kernel_rfl
noncomputable def C23 (r : Int) (s ks : List Int) (zs bs : List Int) (g0 g1 e1 : Nat) (ow0 ow1 : Bool) : Out := trim 5 5 [6,7,8,9] (run eP 57 ⟨5, []⟩ 400 (roundOf 0 f23) [(6, .var 2 0), (7, .var 3 0), (8, .var 4 0), (9, .int .i64 r)] [some ⟨.ints .u8 zs, g0, ow0, 5⟩, some ⟨.ints .u8 bs, g1, ow1, e1⟩, some ⟨.ints .u8 TABLaw, 0, true, 72⟩, some ⟨.ints .u8 ks, 0, true, 49⟩, some ⟨.ints .u8 s, 0, true, 48⟩] [some true, some true])
theorem C23_ok {r : Int} {s ks : List Int} {zs bs : List Int} {g0 g1 e1 : Nat} {ow0 ow1 : Bool} (h : allP [.p (decide (r < 11) = true), .p ((r == 10) = true), .eqN s.length 16, .eqN s.length 16, .p (Bytes s), .p (TABLaw = TABLaw), .eqN s.length 16, .leI 0 r, .leI (r + 1) 11, .leN (r.toNat * 16 + 16) ks.length, .eqN (List.take 16 (dropO (r.toNat * 16) ks)).length 16, .p (Bytes (turnedLaw 1 (boxedLaw
 s))), .p (Bytes (List.take 16 (dropO (r.toNat * 16) ks))), .rng (-9223372036854775808) (r + 1) 9223372036854775807]) : Ok (C23 r s ks zs bs g0 g1 e1 ow0 ow1) := Ok.dem (fl := bitsF 65 8672173663382929150) (by kernel_rfl) (by kernel_rfl) (by kernel_rfl) h
theorem C23_ex {r : Int} {s ks : List Int} {zs bs : List Int} {g0 g1 e1 : Nat} {ow0 ow1 : Bool} : (C23 r s ks zs bs g0 g1 e1 ow0 ow1).ex = .normal := by kernel_rfl
theorem C23_fm {r : Int} {s ks : List Int} {zs bs : List Int} {g0 g1 e1 : Nat} {ow0 ow1 : Bool} : (C23 r s ks zs bs g0 g1 e1 ow0 ow1).fm = [(6, .var 2 0), (7, .var 3 0), (8, .var 4 0), (9, .int .i64 (r + 1))] := by kernel_rfl
theorem C23_tab {r : Int} {s ks : List Int} {zs bs : List Int} {g0 g1 e1 : Nat} {ow0 ow1 : Bool} : (C23 r s ks zs bs g0 g1 e1 ow0 ow1).tab = [some ⟨.ints .u8 zs, g0, ow0, 5⟩, some ⟨.ints .u8 bs, g1, ow1, e1⟩, some ⟨.ints .u8 TABLaw, 0, true, 72⟩, some ⟨.ints .u8 ks, 0, true, 49⟩, some ⟨.ints .u8 (plusLaw (turnedLaw 1 (boxedLaw s)) (List.take 16 (dropO (r.toNat * 16) ks))), 0, true, 48⟩] := by
 kernel_rfl
noncomputable def D23 (r : Int) (s ks : List Int) (zs bs : List Int) (g0 g1 e1 : Nat) (ow0 ow1 : Bool) : Out := trim 5 5 [8] (run eP 57 ⟨5, []⟩ 400 (roundOf 0 f23) [(6, .var 2 0), (7, .var 3 0), (8, .var 4 0), (9, .int .i64 r)] [some ⟨.ints .u8 zs, g0, ow0, 5⟩, some ⟨.ints .u8 bs, g1, ow1, e1⟩, some ⟨.ints .u8 TABLaw, 0, true, 72⟩, some ⟨.ints .u8 ks, 0, true, 49⟩, some ⟨.ints .u8 s, 0, true, 48⟩] [some false])
theorem D23_ok {r : Int} {s ks : List Int} {zs bs : List Int} {g0 g1 e1 : Nat} {ow0 ow1 : Bool} (h : allP [.p (decide (r < 11) = false)]) : Ok (D23 r s ks zs bs g0 g1 e1 ow0 ow1) := Ok.dem (fl := [false]) (by kernel_rfl) (by kernel_rfl) (by kernel_rfl) h
theorem D23_ex {r : Int} {s ks : List Int} {zs bs : List Int} {g0 g1 e1 : Nat} {ow0 ow1 : Bool} : (D23 r s ks zs bs g0 g1 e1 ow0 ow1).ex = .exit 0 := by kernel_rfl
theorem D23_fm {r : Int} {s ks : List Int} {zs bs : List Int} {g0 g1 e1 : Nat} {ow0 ow1 : Bool} : (D23 r s ks zs bs g0 g1 e1 ow0 ow1).fm = [(8, .var 4 0)] := by kernel_rfl
theorem D23_tab {r : Int} {s ks : List Int} {zs bs : List Int} {g0 g1 e1 : Nat} {ow0 ow1 : Bool} : (D23 r s ks zs bs g0 g1 e1 ow0 ow1).tab = [some ⟨.ints .u8 zs, g0, ow0, 5⟩, some ⟨.ints .u8 bs, g1, ow1, e1⟩, some ⟨.ints .u8 TABLaw, 0, true, 72⟩, some ⟨.ints .u8 ks, 0, true, 49⟩, some ⟨.ints .u8 s, 0, true, 48⟩] := by kernel_rfl
def T23 (ks zs bs : List Int) (g0 g1 e1 : Nat) (ow0 ow1 : Bool) (s : List Int) : Tab := [some ⟨.ints .u8 zs, g0, ow0, 5⟩, some ⟨.ints .u8 bs, g1, ow1, e1⟩, some ⟨.ints .u8 TABLaw, 0, true, 72⟩, some ⟨.ints .u8 ks, 0, true, 49⟩, some ⟨.ints .u8 s, 0, true, 48⟩]
def F23 (r : Int) : Fm := [(6, .var 2 0), (7, .var 3 0), (8, .var 4 0), (9, .int .i64 r)]
theorem loop23 {ks s : List Int} (hk : ks.length = 176) (hkb : Bytes ks) (hs : Bytes s) {zs bs : List Int} {g0 g1 e1 : Nat} {ow0 ow1 : Bool} :
    To eP 57 5 (.block 0 (.loop (roundOf 0 f23))) (F23 1) (T23 ks zs bs g0 g1 e1 ow0 ow1 (encLaw ks s 0)) .normal [(8, .var 4 0)] (T23 ks zs bs g0 g1 e1 ow0 ow1 (encLaw ks s 10)) := by
  refine To.rounds (fun i : Nat => F23 (i + 1 : Nat)) (fun i => T23 ks zs bs g0 g1 e1 ow0 ow1 (encLaw ks s i)) 10 (fun i hi => ?_)
    (To.of (o := D23 (11 : Nat) (encLaw ks s 10) ks zs bs g0 g1 e1 ow0 ow1) eP_ok hmA (Nat.le_refl 5) OrcOk.nil rfl (D23_ok (by simp [allP, Con.h])) D23_ex D23_fm D23_tab)
  have hl := enc_len ks s i
  have hb := enc_bytes hkb hs i
  have hb1 := turned_bytes (n := 1) (boxed_bytes hb)
  have hm := mix_bytes (turnedLaw 1 (boxedLaw (encLaw ks s i)))
  have hsl : (subLaw ks (16 * (i + 1)) 16).length = 16 := subLaw_len (by omega)
  have hsb := sub_bytes hkb (16 * (i + 1)) 16
  have q1 : List.take 16 (dropO (((i + 1 : Nat) : Int).toNat * 16) ks) = subLaw ks (16 * (i + 1)) 16 := by rw [sub_eq, Int.toNat_natCast, Nat.mul_comm]
  by_cases h : i = 9
  · subst h
    refine To.of (o := C23 (10 : Nat) (encLaw ks s 9) ks zs bs g0 g1 e1 ow0 ow1) eP_ok hmA (Nat.le_refl 5) OrcOk.nil rfl (C23_ok ?_) C23_ex C23_fm (by rw [C23_tab, q1]; rfl)
    rw [q1]
    simp only [allP, Con.h, hl, hb, hb1, hsl, hsb, hk, TABLaw_len, decide_eq_true_eq, eq_self, and_true, true_and]
    first | omega | exact ⟨by decide, by decide, by decide, by decide⟩ | simp
  · have hne : ((((i + 1 : Nat) : Int) == 10) = false) := by simp only [beq_eq_false_iff_ne, ne_eq]; omega
    refine To.of (o := A23 (i + 1 : Nat) (encLaw ks s i) ks zs bs g0 g1 e1 ow0 ow1) eP_ok hmA (Nat.le_refl 5) OrcOk.nil rfl (A23_ok ?_) A23_ex A23_fm ?_
    · rw [q1]
      simp only [allP, Con.h, hl, hb, hb1, hm, hsl, hsb, hk, hne, TABLaw_len, decide_eq_true_eq, eq_self, and_true, true_and, Int.toNat_natCast]
      omega
    · rw [A23_tab, q1]
      show _ = T23 ks zs bs g0 g1 e1 ow0 ow1 (encRLaw ks (encLaw ks s i) (i + 1))
      unfold encRLaw
      rw [if_neg (by omega)]
      rfl
def g23 : List AVal → Tab → Out := fun vs T => match vs, T with
  | [.var 2 0, .var 3 0, .var 4 0, .int .i64 r], [some ⟨.ints .u8 zs, g0, ow0, 5⟩, some ⟨.ints .u8 bs, g1, ow1, e1⟩, some ⟨.ints .u8 tb, 0, true, 72⟩, some ⟨.ints .u8 ks, 0, true, 49⟩, some ⟨.ints .u8 s, 0, true, 48⟩] =>
    ⟨[.rng 1 r 1, .p (tb = TABLaw), .eqN ks.length 176, .p (Bytes ks), .p (Bytes (subLaw bs 0 16)), .p (s = encLaw ks (subLaw bs 0 16) 0)], .normal, [(8, .var 4 0)],
      [some ⟨.ints .u8 zs, g0, ow0, 5⟩, some ⟨.ints .u8 bs, g1, ow1, e1⟩, some ⟨.ints .u8 tb, 0, true, 72⟩, some ⟨.ints .u8 ks, 0, true, 49⟩, some ⟨.ints .u8 (blockLaw ks (subLaw bs 0 16)), 0, true, 48⟩], []⟩
  | _, _ => failO
theorem g23_ok : BlkOk eP f23 0 (.loop (roundOf 0 f23)) (blkS 5 [6,7,8,9] g23) := by
  refine blkS_ok fun vs T h => ?_
  unfold g23 at h ⊢
  split at h
  · rename_i r zs g0 ow0 bs g1 ow1 e1 tb ks s
    obtain ⟨h1, h2, h3, h4, h5, h6, _⟩ := h.h
    simp only [Con.h] at h1 h2 h3 h4 h5 h6
    obtain rfl : r = 1 := by omega
    subst h2 h6
    exact loop23 h3 h4 h5
  · exact absurd h nofailO
end Go.Abs

set_option linter.unusedVariables false
set_option linter.unusedSimpArgs false
namespace Go.Abs
/-! ### bytes, words, numbers -/
def nB : List Int → Nat
  | [] => 0
  | z :: r => z.toNat * 256 ^ r.length + nB r
theorem Bytes.tl {z : Int} {r : List Int} (h : Bytes (z :: r)) : Bytes r := fun i hi => by
  have := h (i + 1) (by simpa using hi)
  simpa using this
theorem Bytes.hd {z : Int} {r : List Int} (h : Bytes (z :: r)) : 0 ≤ z ∧ z < 256 := by simpa using h 0 (by simp)
theorem p256 (n : Nat) : 256 ^ n = 2 ^ (8 * n) := by rw [Nat.pow_mul]
theorem nB_lt : ∀ {l : List Int}, Bytes l → nB l < 2 ^ (8 * l.length)
  | [], _ => by simp [nB]
  | z :: r, h => by
    have h1 := nB_lt h.tl
    have h2 := h.hd
    simp only [nB, List.length_cons]
    rw [p256, show 8 * (r.length + 1) = 8 * r.length + 8 by omega, Nat.pow_add]
    have : z.toNat + 1 ≤ 256 := by omega
    have h3 := Nat.mul_le_mul_right (2 ^ (8 * r.length)) this
    rw [Nat.add_mul, Nat.one_mul] at h3
    rw [Nat.mul_comm (2 ^ (8 * r.length))]
    omega
theorem nB_app (a b : List Int) : nB (a ++ b) = nB a * 256 ^ b.length + nB b := by
  induction a with
  | nil => simp [nB]
  | cons z r ih =>
    rw [List.cons_append]
    simp only [nB, ih, List.length_append, Nat.pow_add, Nat.add_mul, Nat.mul_assoc, Nat.add_assoc]
theorem nB_bit : ∀ {l : List Int}, Bytes l → ∀ k, k < l.length → ∀ j, j < 8 → (nB l).testBit (8 * (l.length - 1 - k) + j) = (l.getD k 0).toNat.testBit j
  | z :: r, h, k, hk, j, hj => by
    have h1 := nB_lt h.tl
    simp only [nB, List.length_cons]
    rw [p256, Nat.mul_comm z.toNat, Nat.testBit_two_pow_mul_add _ h1]
    cases k with
    | zero =>
      rw [if_neg (by omega), show 8 * (r.length + 1 - 1 - 0) + j - 8 * r.length = j by omega]
      rfl
    | succ k =>
      simp only [List.length_cons] at hk
      rw [if_pos (by omega), show 8 * (r.length + 1 - 1 - (k + 1)) + j = 8 * (r.length - 1 - k) + j by omega, nB_bit h.tl k (by omega) j hj]
      rfl
theorem bit_big {x n j : Nat} (h : x < 2 ^ n) (hj : n ≤ j) : x.testBit j = false := Nat.testBit_lt_two_pow (Nat.lt_of_lt_of_le h (Nat.pow_le_pow_right (by decide) hj))
theorem nB_ext {l : List Int} (h : Bytes l) (hl : l.length = 16) {x : Nat} (hx : x < 2 ^ 128) (hb : ∀ k, k < 16 → ∀ j, j < 8 → (l.getD k 0).toNat.testBit j = x.testBit (8 * (15 - k) + j)) : nB l = x := by
  apply Nat.eq_of_testBit_eq
  intro i
  by_cases hi : i < 128
  · have e := nB_bit h (15 - i / 8) (by omega) (i % 8) (Nat.mod_lt _ (by decide))
    rw [hl, show 8 * (16 - 1 - (15 - i / 8)) + i % 8 = i by omega] at e
    rw [e, hb (15 - i / 8) (by omega) (i % 8) (Nat.mod_lt _ (by decide)), show 8 * (15 - (15 - i / 8)) + i % 8 = i by omega]
  · rw [bit_big (n := 8 * l.length) (nB_lt h) (by omega), bit_big hx (by omega)]
theorem nB_lt16 {l : List Int} (h : Bytes l) (hl : l.length = 16) : nB l < 2 ^ 128 := by
  have := nB_lt h
  rwa [hl] at this
theorem nB_bit16 {l : List Int} (h : Bytes l) (hl : l.length = 16) {k j : Nat} (hk : k < 16) (hj : j < 8) : (nB l).testBit (8 * (15 - k) + j) = (l.getD k 0).toNat.testBit j := by
  have := nB_bit h k (by omega) j hj
  rwa [hl, show 16 - 1 - k = 15 - k by omega] at this
def bN (x : Nat) : List Int := l16 fun i => ((x >>> (8 * (15 - i)) % 256 : Nat) : Int)
theorem bN_len (x : Nat) : (bN x).length = 16 := rfl
theorem bN_get (x : Nat) {k : Nat} (hk : k < 16) : (bN x).getD k 0 = ((x >>> (8 * (15 - k)) % 256 : Nat) : Int) := l16_get _ k hk
theorem bN_bytes (x : Nat) : Bytes (bN x) := l16_bytes fun i _ => by omega
theorem nB_bN {x : Nat} (hx : x < 2 ^ 128) : nB (bN x) = x := nB_ext (bN_bytes x) (bN_len x) hx fun k hk j hj => by
  rw [bN_get x hk, Int.toNat_natCast, show 256 = 2 ^ 8 by rfl, Nat.testBit_mod_two_pow, Nat.testBit_shiftRight]
  simp [hj]
theorem bN_nB {l : List Int} (h : Bytes l) (hl : l.length = 16) : bN (nB l) = l := by
  refine Eq.trans (l16_congr fun k hk => ?_) (l16_of hl)
  have hk2 := h.get k
  have : nB l >>> (8 * (15 - k)) % 256 = (l.getD k 0).toNat := by
    apply Nat.eq_of_testBit_eq
    intro j
    rw [show 256 = 2 ^ 8 by rfl, Nat.testBit_mod_two_pow, Nat.testBit_shiftRight]
    by_cases hj : j < 8
    · rw [nB_bit16 h hl hk hj]; simp [hj]
    · rw [bit_big (x := (l.getD k 0).toNat) (n := 8) (by omega) (by omega)]; simp [hj]
  rw [this]; omega
theorem nB_plus {s k : List Int} (hs : Bytes s) (hk : Bytes k) (ls : s.length = 16) (lk : k.length = 16) : nB (plusLaw s k) = nB s ^^^ nB k := by
  refine nB_ext (plus_bytes hs hk) rfl (Nat.xor_lt_two_pow (nB_lt16 hs ls) (nB_lt16 hk lk)) fun i hi j hj => ?_
  rw [Nat.testBit_xor, nB_bit16 hs ls hi hj, nB_bit16 hk lk hi hj, show (plusLaw s k).getD i 0 = ixor (s.getD i 0) (k.getD i 0) from l16_get _ i hi]
  simp only [ixor, Int.toNat_natCast, Nat.testBit_xor]
theorem bN_xor (x y : Nat) : bN (x ^^^ y) = plusLaw (bN x) (bN y) := by
  refine l16_congr fun k hk => ?_
  rw [bN_get x hk, bN_get y hk]
  simp only [ixor, Int.toNat_natCast]
  congr 1
  rw [Nat.shiftRight_xor_distrib, show 256 = 2 ^ 8 by rfl, Nat.xor_mod_two_pow]
/-! a pair of words -/
def nW (w : List Int) : Nat := (w.getD 0 0).toNat * 2 ^ 64 + (w.getD 1 0).toNat
def wN (x : Nat) : List Int := [((x >>> 64 : Nat) : Int), ((x % 2 ^ 64 : Nat) : Int)]
theorem wN_hi {x : Nat} (h : x < 2 ^ 128) : x >>> 64 < 2 ^ 64 := by rw [Nat.shiftRight_eq_div_pow]; omega
theorem nW_wN (x : Nat) : nW (wN x) = x := by
  show (((x >>> 64 : Nat) : Int)).toNat * 2 ^ 64 + (((x % 2 ^ 64 : Nat) : Int)).toNat = x
  rw [Int.toNat_natCast, Int.toNat_natCast, Nat.shiftRight_eq_div_pow]
  omega
theorem wN_xor (x y : Nat) : wN (x ^^^ y) = [ixor ((wN x).getD 0 0) ((wN y).getD 0 0), ixor ((wN x).getD 1 0) ((wN y).getD 1 0)] := by
  show [_, _] = [(_ : Int), _]
  simp only [wN, ixor, List.getD_cons_zero, List.getD_cons_succ, Int.toNat_natCast, Nat.shiftRight_xor_distrib, Nat.xor_mod_two_pow]
/-- a step of a product, of words -/
theorem dN_hi {x : Nat} : dN x >>> 64 = (x >>> 64) >>> 1 ^^^ (if x.testBit 0 then 225 * 2 ^ 56 else 0) := by
  unfold dN
  rw [Nat.shiftRight_xor_distrib, ← Nat.shiftRight_add, ← Nat.shiftRight_add, Nat.add_comm 1 64]
  congr 1
  split
  · rw [Nat.shiftLeft_eq, Nat.shiftRight_eq_div_pow, show 225 * 2 ^ 120 = 225 * 2 ^ 56 * 2 ^ 64 by rfl]
  · rw [Nat.zero_shiftRight]
theorem dN_lo {x : Nat} : dN x % 2 ^ 64 = (x % 2 ^ 64) >>> 1 ||| (x >>> 64) * 2 ^ 63 % 2 ^ 64 := by
  unfold dN
  rw [Nat.xor_mod_two_pow]
  have e : (if x.testBit 0 = true then 225 <<< 120 else 0) % 2 ^ 64 = 0 := by
    split
    · rw [Nat.shiftLeft_eq, show 225 * 2 ^ 120 = 225 * 2 ^ 56 * 2 ^ 64 by rfl]
    · rfl
  rw [e, Nat.xor_zero]
  apply Nat.eq_of_testBit_eq
  intro j
  rw [Nat.testBit_mod_two_pow, Nat.testBit_shiftRight, Nat.testBit_or, Nat.testBit_shiftRight, Nat.testBit_mod_two_pow, Nat.testBit_mod_two_pow, Nat.mul_comm (x >>> 64), Nat.testBit_two_pow_mul, Nat.testBit_shiftRight]
  by_cases hj : j < 63
  · have h1 : j < 64 := by omega
    have h2 : 1 + j < 64 := by omega
    have h3 : ¬ 63 ≤ j := by omega
    simp [h1, h2, h3]
  · by_cases hj' : j = 63
    · subst hj'; simp
    · have h1 : ¬ j < 64 := by omega
      have h2 : ¬ 1 + j < 64 := by omega
      simp [h1, h2]
theorem wN_d {x : Nat} (h : x < 2 ^ 128) : wN (dN x) = [ixor ((wN x).getD 0 0 / 2) (iand ((wN x).getD 1 0) 1 * 16212958658533785600 % 18446744073709551616), ior ((wN x).getD 1 0 / 2) ((wN x).getD 0 0 * 9223372036854775808 % 18446744073709551616)] := by
  have e1 : (((x >>> 64 : Nat) : Int) / 2).toNat = (x >>> 64) >>> 1 := by rw [Nat.shiftRight_eq_div_pow (x >>> 64)]; omega
  have e2 : (((x % 2 ^ 64 : Nat) : Int) / 2).toNat = (x % 2 ^ 64) >>> 1 := by rw [Nat.shiftRight_eq_div_pow (x % 2 ^ 64)]; omega
  have e3 : (((x >>> 64 : Nat) : Int) * 9223372036854775808 % 18446744073709551616).toNat = (x >>> 64) * 2 ^ 63 % 2 ^ 64 := by omega
  have e4 : (iand ((x % 2 ^ 64 : Nat) : Int) 1 * 16212958658533785600 % 18446744073709551616).toNat = if x.testBit 0 then 225 * 2 ^ 56 else 0 := by
    simp only [iand, Int.toNat_natCast, show (1 : Int).toNat = 1 by rfl, Nat.and_one_is_mod, Nat.testBit_zero]
    by_cases h1 : x % 2 = 1
    · have : x % 2 ^ 64 % 2 = 1 := by omega
      rw [if_pos (by simp [h1]), this]; rfl
    · have : x % 2 ^ 64 % 2 = 0 := by omega
      rw [if_neg (by simp [h1]), this]; rfl
  show [((dN x >>> 64 : Nat) : Int), ((dN x % 2 ^ 64 : Nat) : Int)] = [ixor (((x >>> 64 : Nat) : Int) / 2) (iand ((x % 2 ^ 64 : Nat) : Int) 1 * 16212958658533785600 % 18446744073709551616), ior (((x % 2 ^ 64 : Nat) : Int) / 2) (((x >>> 64 : Nat) : Int) * 9223372036854775808 % 18446744073709551616)]
  unfold ixor ior
  rw [e1, e2, e3, e4, dN_hi, dN_lo]
/-- a bit of a pair of words -/
theorem wN_bit {x i : Nat} (hi : i < 128) : (iand ((wN x).getD (((i : Int)).tdiv 64).toNat 0 / 2 ^ (63 - ((i : Int)).tmod 64).toNat) 1 == 1) = x.testBit (127 - i) := by
  rw [Int.tdiv_eq_ediv_of_nonneg (by omega), Int.tmod_eq_emod_of_nonneg (by omega), show ((i : Int) / 64).toNat = i / 64 by omega, show (63 - (i : Int) % 64).toNat = 63 - i % 64 by omega]
  have key : ∀ y s : Nat, (iand ((y : Int) / 2 ^ s) 1 == 1) = y.testBit s := fun y s => by
    have : (y : Int) / 2 ^ s = ((y >>> s : Nat) : Int) := by rw [Nat.shiftRight_eq_div_pow]; simp
    rw [this]
    simp only [iand, Int.toNat_natCast, show (1 : Int).toNat = 1 by rfl, Nat.and_one_is_mod]
    rw [← Nat.zero_add s, ← Nat.add_comm s, ← Nat.testBit_shiftRight, Nat.testBit_zero, Nat.add_zero]
    have : y >>> s % 2 < 2 := Nat.mod_lt _ (by decide)
    by_cases h : y >>> s % 2 = 1
    · simp [h]
    · have : y >>> s % 2 = 0 := by omega
      simp [this]
  by_cases h : i < 64
  · rw [show i / 64 = 0 by omega]
    show (iand (((x >>> 64 : Nat) : Int) / 2 ^ (63 - i % 64)) 1 == 1) = _
    rw [key, Nat.testBit_shiftRight]
    congr 1; omega
  · rw [show i / 64 = 1 by omega]
    show (iand (((x % 2 ^ 64 : Nat) : Int) / 2 ^ (63 - i % 64)) 1 == 1) = _
    rw [key, Nat.testBit_mod_two_pow, show 63 - i % 64 = 127 - i by omega]
    simp [show 127 - i < 64 by omega]
/-- a number out of bytes, one by one -/
def gLaw (a : Int) : List Int → Int
  | [] => a
  | z :: r => gLaw (ior (a * 256 % 18446744073709551616) z) r
theorem or_add {a c : Nat} (h : c < 256) : a * 256 ||| c = a * 256 + c := by
  have := Nat.two_pow_add_eq_or_of_lt (i := 8) (b := c) (by omega) a
  rw [Nat.mul_comm a 256]
  exact this.symm
theorem gLaw_eq : ∀ {l : List Int} {a : Nat}, Bytes l → l.length ≤ 8 → a < 256 ^ (8 - l.length) → gLaw (a : Int) l = ((a * 256 ^ l.length + nB l : Nat) : Int)
  | [], a, _, _, _ => by simp [gLaw, nB]
  | z :: r, a, h, hl, ha => by
    have hz := h.hd
    obtain ⟨c, rfl⟩ : ∃ c : Nat, z = c := ⟨z.toNat, by omega⟩
    simp only [List.length_cons] at ha hl
    have hp : 256 ^ (8 - r.length) = 256 ^ (8 - (r.length + 1)) * 256 := by rw [show 8 - r.length = 8 - (r.length + 1) + 1 by omega, Nat.pow_succ]
    have hq : 256 ^ (8 - r.length) ≤ 256 ^ 8 := Nat.pow_le_pow_right (by decide) (by omega)
    have e1 : ior ((a : Int) * 256 % 18446744073709551616) (c : Int) = ((a * 256 + c : Nat) : Int) := by
      have : ((a : Int) * 256 % 18446744073709551616) = ((a * 256 : Nat) : Int) := by omega
      rw [this]
      simp only [ior, Int.toNat_natCast]
      rw [or_add (by omega)]
    show gLaw (ior ((a : Int) * 256 % 18446744073709551616) (c : Int)) r = _
    rw [e1, gLaw_eq h.tl (by omega) (by omega)]
    congr 1
    simp only [nB, List.length_cons, Int.toNat_natCast, Nat.pow_succ]
    rw [Nat.add_mul, Nat.mul_comm (256 ^ r.length) 256, Nat.mul_assoc, Nat.add_assoc]
/-- the words of sixteen bytes -/
theorem wN_nB {b : List Int} (h : Bytes b) (hl : b.length = 16) : wN (nB b) = [gLaw 0 (b.take 8), gLaw 0 (b.drop 8)] := by
  have h1 : (b.take 8).length = 8 := by rw [List.length_take]; omega
  have h2 : (b.drop 8).length = 8 := by rw [List.length_drop]; omega
  have e1 := gLaw_eq (a := 0) (h.take 8) (by omega) (by rw [h1]; decide)
  have e2 := gLaw_eq (a := 0) (h.drop 8) (by omega) (by rw [h2]; decide)
  have b1 := nB_lt (h.take 8)
  have b2 := nB_lt (h.drop 8)
  rw [h1] at b1
  rw [h2] at b2
  have e : nB b = nB (b.take 8) * 256 ^ 8 + nB (b.drop 8) := by
    have := nB_app (b.take 8) (b.drop 8)
    rwa [List.take_append_drop, h2] at this
  rw [show (0 : Int) = ((0 : Nat) : Int) by rfl, e1, e2, Nat.zero_mul, Nat.zero_mul, Nat.zero_add, Nat.zero_add]
  unfold wN
  rw [e, Nat.shiftRight_eq_div_pow, show 256 ^ 8 = 2 ^ 64 by rfl]
  congr 1
  · congr 1; omega
  · congr 2; omega
/-- sixteen bytes of two words -/
theorem bN_w {x : Nat} (h : x < 2 ^ 128) : bN x = l16 fun i => ((((wN x).getD (i / 8) 0).toNat >>> (56 - 8 * (i % 8)) % 256 : Nat) : Int) := by
  refine l16_congr fun i hi => ?_
  congr 1
  by_cases hk : i < 8
  · rw [show i / 8 = 0 by omega]
    simp only [wN, List.getD_cons_zero, Int.toNat_natCast]
    rw [← Nat.shiftRight_add]
    congr 2; omega
  · rw [show i / 8 = 1 by omega]
    simp only [wN, List.getD_cons_succ, List.getD_cons_zero, Int.toNat_natCast]
    apply Nat.eq_of_testBit_eq
    intro j
    rw [show 256 = 2 ^ 8 by rfl, Nat.testBit_mod_two_pow, Nat.testBit_mod_two_pow, Nat.testBit_shiftRight, Nat.testBit_shiftRight, Nat.testBit_mod_two_pow]
    by_cases hj : j < 8
    · have : 56 - 8 * (i % 8) + j < 64 := by omega
      rw [show 8 * (15 - i) + j = 56 - 8 * (i % 8) + j by omega]
      simp [hj, this]
    · simp [hj]
end Go.Abs

set_option linter.unusedVariables false
set_option linter.unusedSimpArgs false
set_option maxRecDepth 8000
namespace Go.Abs
open Go.Proofs.Try
/-! ### blocks as two words -/
def WpLaw (p : List Int) : Prop := ∃ x, x < 2 ^ 128 ∧ p = wN x
theorem WpLaw.of {x : Nat} (h : x < 2 ^ 128) : WpLaw (wN x) := ⟨x, h, rfl⟩
theorem WpLaw.nb {b : List Int} (h : Bytes b) (hl : b.length = 16) : WpLaw (wN (nB b)) := ⟨_, nB_lt16 h hl, rfl⟩
theorem wN_len (x : Nat) : (wN x).length = 2 := rfl
theorem wN_nn {x : Nat} (h : x < 2 ^ 128) (i : Nat) : nonneg .u64 ((wN x).getD i 0) := by
  have := wN_hi h
  match i with
  | 0 => exact ⟨Int.natCast_nonneg (x >>> 64), show ((x >>> 64 : Nat) : Int) < 18446744073709551616 by omega⟩
  | 1 => exact ⟨Int.natCast_nonneg (x % 2 ^ 64), show ((x % 2 ^ 64 : Nat) : Int) < 18446744073709551616 by omega⟩
  | i + 2 => exact ⟨Int.le_refl 0, show (0 : Int) < 18446744073709551616 by decide⟩
def gwLaw (b : List Int) : List Int := wN (nB b)
def ptLaw (p : List Int) : List Int := bN (nW p)
def xwLaw (p q : List Int) : List Int := wN (nW p ^^^ nW q)
def mwLaw (p q : List Int) : List Int := wN (mulN (nW p) (nW q))
def p128Law (p : List Int) : List Int := wN (apN (nW p) 128)
theorem pt_wN (x : Nat) : ptLaw (wN x) = bN x := by unfold ptLaw; rw [nW_wN]
theorem xw_wN (x y : Nat) : xwLaw (wN x) (wN y) = wN (x ^^^ y) := by unfold xwLaw; rw [nW_wN, nW_wN]
theorem mw_wN (x y : Nat) : mwLaw (wN x) (wN y) = wN (mulN x y) := by unfold mwLaw; rw [nW_wN, nW_wN]
theorem p128_wN (x : Nat) : p128Law (wN x) = wN (apN x 128) := by unfold p128Law; rw [nW_wN]
theorem WpLaw.gw {b : List Int} (h : Bytes b) (hl : b.length = 16) : WpLaw (gwLaw b) := .nb h hl
theorem WpLaw.lt {p : List Int} (h : WpLaw p) : nW p < 2 ^ 128 := by obtain ⟨x, hx, rfl⟩ := h; rwa [nW_wN]
theorem WpLaw.xw {p q : List Int} (hp : WpLaw p) (hq : WpLaw q) : WpLaw (xwLaw p q) := .of (Nat.xor_lt_two_pow hp.lt hq.lt)
theorem WpLaw.mw {p q : List Int} (hp : WpLaw p) : WpLaw (mwLaw p q) := .of (mulN_lt _ hp.lt)
theorem WpLaw.len {p : List Int} (h : WpLaw p) : p.length = 2 := by obtain ⟨x, _, rfl⟩ := h; rfl
theorem pt_bytes (p : List Int) : Bytes (ptLaw p) := bN_bytes _
theorem pt_len (p : List Int) : (ptLaw p).length = 16 := rfl
/-! get -/
def gsLaw (xs : List Int) : Nat → List Int
  | 0 => [0, 0]
  | i + 1 => (gsLaw xs i).set (i / 8) (ior ((gsLaw xs i).getD (i / 8) 0 * 256 % 18446744073709551616) (xs.getD i 0))
theorem gs_len (xs : List Int) : ∀ i, (gsLaw xs i).length = 2
  | 0 => rfl
  | i + 1 => by simp only [gsLaw, List.length_set, gs_len xs i]
theorem gLaw_snoc : ∀ (l : List Int) (a z : Int), gLaw a (l ++ [z]) = ior (gLaw a l * 256 % 18446744073709551616) z
  | [], a, z => rfl
  | x :: l, a, z => gLaw_snoc l _ z
theorem take_snoc {xs : List Int} {i : Nat} (h : i < xs.length) : xs.take (i + 1) = xs.take i ++ [xs.getD i 0] := by
  rw [List.take_add_one, List.getD_eq_getElem?_getD, List.getElem?_eq_getElem h]; rfl
theorem gs_lo {xs : List Int} (hl : xs.length = 16) : ∀ i, i ≤ 8 → gsLaw xs i = [gLaw 0 (xs.take i), 0]
  | 0, _ => rfl
  | i + 1, h => by
    simp only [gsLaw, gs_lo hl i (by omega), show i / 8 = 0 by omega, List.set_cons_zero, List.getD_cons_zero]
    rw [take_snoc (by omega), gLaw_snoc]
theorem gs_hi {xs : List Int} (hl : xs.length = 16) : ∀ i, i ≤ 8 → gsLaw xs (8 + i) = [gLaw 0 (xs.take 8), gLaw 0 ((xs.drop 8).take i)]
  | 0, _ => gs_lo hl 8 (Nat.le_refl 8)
  | i + 1, h => by
    rw [← Nat.add_assoc]
    simp only [gsLaw, gs_hi hl i (by omega), show (8 + i) / 8 = 1 by omega, List.set_cons_succ, List.set_cons_zero, List.getD_cons_succ, List.getD_cons_zero]
    rw [take_snoc (xs := xs.drop 8) (by rw [List.length_drop]; omega), gLaw_snoc, getD_drop]
theorem gs_eq {xs : List Int} (h : Bytes xs) (hl : xs.length = 16) : gsLaw xs 16 = wN (nB xs) := by
  rw [wN_nB h hl, show 16 = 8 + 8 by rfl, gs_hi hl 8 (Nat.le_refl 8), List.take_of_length_le (l := xs.drop 8) (by rw [List.length_drop]; omega)]
noncomputable def A59n (zs : List Int) (g e off : Nat) (ow : Bool) (ps : List Int) (i : Int) : Out := trim 3 3 [2,3,7,8,9] (run (eA []) 27 ⟨3, []⟩ 400 (roundOf 0 f59) [(2, .var 1 0), (3, .var 2 0), (7, .slice 1 0 g off 16 none), (8, .int .i64 16), (9, .int .i64 i)] [some ⟨.ints .u8 zs, g, ow, e⟩, some ⟨.ints .u64 [0, 0], 0, true, 65⟩, some ⟨.ints .u64 ps, 0, true, 65⟩] [some true])
theorem A59n_ok {zs : List Int} {g e off : Nat} {ow : Bool} {ps : List Int} {i : Int} (h : allP [.p (decide (i < 16) = true), .eqN g g, .leI 0 i, .leI (i + 1) 16, .eqN g g, .leN (addO off i.toNat + 1) zs.length, .rng (-9223372036854775808) (i.tdiv 8) 9223372036854775807, .rng (-9223372036854775808) (i.tdiv 8) 9223372036854775807, .leI 0 (i.tdiv 8), .leI (i.tdiv 8 + 1) 2, .leN ((i.tdiv 8).toNat + 1)
 ps.length, .rng 0 (zs.getD (addO off i.toNat) 0) 18446744073709551615, .nn .u64 (ps.getD (i.tdiv 8).toNat 0 * 256 % 18446744073709551616), .nn .u64 (zs.getD (addO off i.toNat) 0), .leI 0 (i.tdiv 8), .leI (i.tdiv 8 + 1) 2, .leN ((i.tdiv 8).toNat + 1) ps.length, .rng (-9223372036854775808) (i + 1) 9223372036854775807]) : Ok (A59n zs g e off ow ps i) := Ok.dem (fl := bitsF 27 48279872) (by kernel_rfl)
 (by kernel_rfl) (by kernel_rfl) h
theorem A59n_ex {zs : List Int} {g e off : Nat} {ow : Bool} {ps : List Int} {i : Int} : (A59n zs g e off ow ps i).ex = .normal := by kernel_rfl
theorem A59n_fm {zs : List Int} {g e off : Nat} {ow : Bool} {ps : List Int} {i : Int} : (A59n zs g e off ow ps i).fm = [(2, .var 1 0), (3, .var 2 0), (7, .slice 1 0 g off 16 none), (8, .int .i64 16), (9, .int .i64 (i + 1))] := by kernel_rfl
theorem A59n_tab {zs : List Int} {g e off : Nat} {ow : Bool} {ps : List Int} {i : Int} : (A59n zs g e off ow ps i).tab = [some ⟨.ints .u8 zs, g, ow, e⟩, some ⟨.ints .u64 [0, 0], 0, true, 65⟩, some ⟨.ints .u64 (ps.set (i.tdiv 8).toNat (ior (ps.getD (i.tdiv 8).toNat 0 * 256 % 18446744073709551616) (zs.getD (addO off i.toNat) 0))), 0, true, 65⟩] := by kernel_rfl
noncomputable def D59n (zs : List Int) (g e off : Nat) (ow : Bool) (ps : List Int) : Out := trim 3 3 [2,3] (run (eA []) 27 ⟨3, []⟩ 400 (roundOf 0 f59) [(2, .var 1 0), (3, .var 2 0), (7, .slice 1 0 g off 16 none), (8, .int .i64 16), (9, .int .i64 16)] [some ⟨.ints .u8 zs, g, ow, e⟩, some ⟨.ints .u64 [0, 0], 0, true, 65⟩, some ⟨.ints .u64 ps, 0, true, 65⟩] [])
theorem D59n_ok {zs : List Int} {g e off : Nat} {ow : Bool} {ps : List Int} (h : allP []) : Ok (D59n zs g e off ow ps) := Ok.dem (fl := []) (by kernel_rfl) (by kernel_rfl) (by kernel_rfl) h
theorem D59n_ex {zs : List Int} {g e off : Nat} {ow : Bool} {ps : List Int} : (D59n zs g e off ow ps).ex = .exit 0 := by kernel_rfl
theorem D59n_fm {zs : List Int} {g e off : Nat} {ow : Bool} {ps : List Int} : (D59n zs g e off ow ps).fm = [(2, .var 1 0), (3, .var 2 0)] := by kernel_rfl
theorem D59n_tab {zs : List Int} {g e off : Nat} {ow : Bool} {ps : List Int} : (D59n zs g e off ow ps).tab = [some ⟨.ints .u8 zs, g, ow, e⟩, some ⟨.ints .u64 [0, 0], 0, true, 65⟩, some ⟨.ints .u64 ps, 0, true, 65⟩] := by kernel_rfl
theorem loop59n {zs : List Int} {g e off : Nat} {ow : Bool} (h : off + 16 ≤ zs.length) (hb : Bytes zs) : To (eA []) 27 3 (.block 0 (.loop (roundOf 0 f59))) [(2, .var 1 0), (3, .var 2 0), (7, .slice 1 0 g off 16 none), (8, .int .i64 16), (9, .int .i64 0)] [some ⟨.ints .u8 zs, g, ow, e⟩, some ⟨.ints .u64 [0, 0], 0, true, 65⟩, some ⟨.ints .u64 [0, 0], 0, true, 65⟩] .normal [(2, .var 1 0), (3, .var 2 0)] [some ⟨.ints .u8 zs, g, ow, e⟩, some ⟨.ints .u64 [0, 0], 0, true, 65⟩, some ⟨.ints .u64 (gsLaw (subLaw zs off 16) 16), 0, true, 65⟩] := by
  refine To.rounds (fun i : Nat => [(2, .var 1 0), (3, .var 2 0), (7, .slice 1 0 g off 16 none), (8, .int .i64 16), (9, .int .i64 (i : Nat))]) (fun i => [some ⟨.ints .u8 zs, g, ow, e⟩, some ⟨.ints .u64 [0, 0], 0, true, 65⟩, some ⟨.ints .u64 (gsLaw (subLaw zs off 16) i), 0, true, 65⟩]) 16 (fun i hi => ?_) (To.of (o := D59n zs g e off ow (gsLaw (subLaw zs off 16) 16)) eA0_ok hmA (Nat.le_refl 3) OrcOk.nil rfl (D59n_ok trivial) D59n_ex D59n_fm D59n_tab)
  have e1 : ((i : Int).tdiv 8).toNat = i / 8 := by rw [Int.tdiv_eq_ediv_of_nonneg (by omega)]; omega
  have e2 : (subLaw zs off 16).getD i 0 = zs.getD (off + i) 0 := by
    unfold subLaw
    rw [List.getD_eq_getElem?_getD, List.getElem?_take_of_lt hi, ← List.getD_eq_getElem?_getD, getD_drop]
  have hz := hb.get (off + i)
  have hl := gs_len (subLaw zs off 16) i
  have e3 : (i : Int).tdiv 8 = ((i / 8 : Nat) : Int) := by rw [Int.tdiv_eq_ediv_of_nonneg (by omega)]; omega
  refine To.of (o := A59n zs g e off ow (gsLaw (subLaw zs off 16) i) (i : Nat)) eA0_ok hmA (Nat.le_refl 3) OrcOk.nil rfl (A59n_ok ?_) A59n_ex A59n_fm ?_
  · rw [e3]
    simp only [allP, Con.h, addO_eq, Int.toNat_natCast, decide_eq_true_eq, hl, and_true, true_and]
    generalize (gsLaw (subLaw zs off 16) i).getD (i / 8) 0 * 256 = y
    simp only [nonneg]
    omega
  · rw [A59n_tab, e1]
    simp only [addO_eq, Int.toNat_natCast, gsLaw, e2]
noncomputable def g59nc (vs : List AVal) (T : Tab) (zs : List Int) (g : Nat) (e : Nat) (off : Nat) (ow : Bool) : Out := ⟨[.tab T [some ⟨.ints .u8 zs, g, ow, e⟩, some ⟨.ints .u64 [0, 0], 0, true, 65⟩, some ⟨.ints .u64 [0, 0], 0, true, 65⟩], .val (.tuple vs) (.tuple [.var 1 0, .var 2 0, .slice 1 0 g off 16 none, .int .i64 16, .int .i64 0]), .leN (off + 16) zs.length, .p (Bytes zs)], .normal, [(2, .var 1 0), (3, .var 2 0)], [some ⟨.ints .u8 zs, g, ow, e⟩, some ⟨.ints .u64 [0, 0], 0, true, 65⟩, some ⟨.ints .u64 (gsLaw (subLaw zs off 16) 16), 0, true, 65⟩], []⟩
theorem g59nc_ok {vs : List AVal} {T : Tab} {zs : List Int} {g : Nat} {e : Nat} {off : Nat} {ow : Bool} (h : Ok (g59nc vs T zs g e off ow)) : To (eA []) 27 3 (.block 0 (.loop (roundOf 0 f59))) (zipF [2,3,7,8,9] vs) T (g59nc vs T zs g e off ow).ex (g59nc vs T zs g e off ow).fm (g59nc vs T zs g e off ow).tab := by
  obtain ⟨hT, hv, h1, h2, _⟩ := h.h
  simp only [Con.h] at hT hv h1 h2
  injection hv with hv
  subst hT hv
  exact loop59n h1 h2
noncomputable def g59n : List AVal → Tab → Out := fun vs T => g59nc vs T (xsAt T 0) (gAt T 0) (etAt T 0) (offOf (vAt vs 2)) (owAt T 0)
theorem g59n_ok : BlkOk (eA []) f59 0 (.loop (roundOf 0 f59)) (blkS 3 [2,3,7,8,9] g59n) := blkS_ok fun vs T h => g59nc_ok h
noncomputable def orc59n : OrcL := [(0, blkS 3 [2,3,7,8,9] g59n)]
theorem orc59n_ok : FnOrc (eA []) f59 orc59n := FnOrc.cons g59n_ok (by kernel_rfl) FnOrc.nil
noncomputable def R59n (zs : List Int) (g e off : Nat) (ow : Bool) : Res := resG 1 [0] (runF (eA []) f59 orc59n 400 [.slice 1 0 g off 16 none] [some ⟨.ints .u8 zs, g, ow, e⟩] [])
theorem R59n_ok {zs : List Int} {g e off : Nat} {ow : Bool} (h : allP [.eqN g g, .orN 16 16 (off + 16) zs.length, .eqN g g, .leN (addO off 0 + 16) zs.length, .p (Bytes zs)]) : OkR (R59n zs g e off ow) := OkR.dem (fl := bitsF 17 130565) (by kernel_rfl) (by kernel_rfl) (by kernel_rfl) h
theorem R59n_val {zs : List Int} {g e off : Nat} {ow : Bool} : (R59n zs g e off ow).val = .ints .u64 (gsLaw (subLaw zs (addO off 0) 16) 16) := by kernel_rfl
theorem R59n_tab {zs : List Int} {g e off : Nat} {ow : Bool} : (R59n zs g e off ow).tab = [some ⟨.ints .u8 zs, g, ow, e⟩] := by kernel_rfl
noncomputable def sm59nc (args : List AVal) (T : Tab) (zs : List Int) (g : Nat) (e : Nat) (off : Nat) (ow : Bool) (n : Nat) : Res := ⟨[.tab T [some ⟨.ints .u8 zs, g, ow, e⟩], .val (.tuple args) (.tuple [.slice 1 0 g off n none]), .leN (off + 16) zs.length, .p (Bytes zs), .eqN n 16], .ints .u64 (gwLaw (subLaw zs off 16)), [some ⟨.ints .u8 zs, g, ow, e⟩]⟩
theorem sm59nc_ok {args : List AVal} {T : Tab} {zs : List Int} {g : Nat} {e : Nat} {off : Nat} {ow : Bool} {n : Nat} (h : allP (sm59nc args T zs g e off ow n).cs) : Small prog (fun _ => none) 59 args T (sm59nc args T zs g e off ow n).val (sm59nc args T zs g e off ow n).tab := by
  obtain ⟨hT, hv, h1, h2, h3, _⟩ := h
  simp only [Con.h] at hT hv h1 h2 h3
  injection hv with hv
  subst hT hv
  subst h3
  have hs : Bytes (subLaw zs off 16) := (h2.drop off).take 16
  have hl : (subLaw zs off 16).length = 16 := subLaw_len (by omega)
  refine small_ofG (R := R59n zs g e off ow) (keep := [0]) eA0_ok hmA (f := 59) (fn := f59) (by kernel_rfl) (by kernel_rfl) orc59n_ok rfl (R59n_ok ?_) (by rw [R59n_val]; simp only [addO_eq, Nat.add_zero]; rw [gs_eq hs hl]; rfl) R59n_tab
  have hg := gs_len (subLaw zs off 16) 16
  simp only [allP, Con.h, addO_eq, Nat.add_zero, hg, h1, h2, eq_self, true_and, and_true]
  try omega
noncomputable def sm59n : Summary := fun args T => sm59nc args T (xsAt T 0) (gAt T 0) (etAt T 0) (offOf (vAt args 0)) (owAt T 0) (lenOf (vAt args 0))
theorem sm59n_ok : SmOk prog (fun _ => none) 59 sm59n := fun args T h => sm59nc_ok h
noncomputable def A59s (zs : List Int) (g e off : Nat) (ow : Bool) (ps : List Int) (i : Int) : Out := trim 3 3 [2,3,7,8,9] (run (eA []) 27 ⟨3, []⟩ 400 (roundOf 0 f59) [(2, .var 1 0), (3, .var 2 0), (7, .slice 1 0 g off 16 (some 16)), (8, .int .i64 16), (9, .int .i64 i)] [some ⟨.ints .u8 zs, g, ow, e⟩, some ⟨.ints .u64 [0, 0], 0, true, 65⟩, some ⟨.ints .u64 ps, 0, true, 65⟩] [some true])
theorem A59s_ok {zs : List Int} {g e off : Nat} {ow : Bool} {ps : List Int} {i : Int} (h : allP [.p (decide (i < 16) = true), .eqN g g, .leI 0 i, .leI (i + 1) 16, .eqN g g, .leN (addO off i.toNat + 1) zs.length, .rng (-9223372036854775808) (i.tdiv 8) 9223372036854775807, .rng (-9223372036854775808) (i.tdiv 8) 9223372036854775807, .leI 0 (i.tdiv 8), .leI (i.tdiv 8 + 1) 2, .leN ((i.tdiv 8).toNat + 1)
 ps.length, .rng 0 (zs.getD (addO off i.toNat) 0) 18446744073709551615, .nn .u64 (ps.getD (i.tdiv 8).toNat 0 * 256 % 18446744073709551616), .nn .u64 (zs.getD (addO off i.toNat) 0), .leI 0 (i.tdiv 8), .leI (i.tdiv 8 + 1) 2, .leN ((i.tdiv 8).toNat + 1) ps.length, .rng (-9223372036854775808) (i + 1) 9223372036854775807]) : Ok (A59s zs g e off ow ps i) := Ok.dem (fl := bitsF 27 48279872) (by kernel_rfl)
 (by kernel_rfl) (by kernel_rfl) h
theorem A59s_ex {zs : List Int} {g e off : Nat} {ow : Bool} {ps : List Int} {i : Int} : (A59s zs g e off ow ps i).ex = .normal := by kernel_rfl
theorem A59s_fm {zs : List Int} {g e off : Nat} {ow : Bool} {ps : List Int} {i : Int} : (A59s zs g e off ow ps i).fm = [(2, .var 1 0), (3, .var 2 0), (7, .slice 1 0 g off 16 (some 16)), (8, .int .i64 16), (9, .int .i64 (i + 1))] := by kernel_rfl
theorem A59s_tab {zs : List Int} {g e off : Nat} {ow : Bool} {ps : List Int} {i : Int} : (A59s zs g e off ow ps i).tab = [some ⟨.ints .u8 zs, g, ow, e⟩, some ⟨.ints .u64 [0, 0], 0, true, 65⟩, some ⟨.ints .u64 (ps.set (i.tdiv 8).toNat (ior (ps.getD (i.tdiv 8).toNat 0 * 256 % 18446744073709551616) (zs.getD (addO off i.toNat) 0))), 0, true, 65⟩] := by kernel_rfl
noncomputable def D59s (zs : List Int) (g e off : Nat) (ow : Bool) (ps : List Int) : Out := trim 3 3 [2,3] (run (eA []) 27 ⟨3, []⟩ 400 (roundOf 0 f59) [(2, .var 1 0), (3, .var 2 0), (7, .slice 1 0 g off 16 (some 16)), (8, .int .i64 16), (9, .int .i64 16)] [some ⟨.ints .u8 zs, g, ow, e⟩, some ⟨.ints .u64 [0, 0], 0, true, 65⟩, some ⟨.ints .u64 ps, 0, true, 65⟩] [])
theorem D59s_ok {zs : List Int} {g e off : Nat} {ow : Bool} {ps : List Int} (h : allP []) : Ok (D59s zs g e off ow ps) := Ok.dem (fl := []) (by kernel_rfl) (by kernel_rfl) (by kernel_rfl) h
theorem D59s_ex {zs : List Int} {g e off : Nat} {ow : Bool} {ps : List Int} : (D59s zs g e off ow ps).ex = .exit 0 := by kernel_rfl
theorem D59s_fm {zs : List Int} {g e off : Nat} {ow : Bool} {ps : List Int} : (D59s zs g e off ow ps).fm = [(2, .var 1 0), (3, .var 2 0)] := by kernel_rfl
theorem D59s_tab {zs : List Int} {g e off : Nat} {ow : Bool} {ps : List Int} : (D59s zs g e off ow ps).tab = [some ⟨.ints .u8 zs, g, ow, e⟩, some ⟨.ints .u64 [0, 0], 0, true, 65⟩, some ⟨.ints .u64 ps, 0, true, 65⟩] := by kernel_rfl
theorem loop59s {zs : List Int} {g e off : Nat} {ow : Bool} (h : off + 16 ≤ zs.length) (hb : Bytes zs) : To (eA []) 27 3 (.block 0 (.loop (roundOf 0 f59))) [(2, .var 1 0), (3, .var 2 0), (7, .slice 1 0 g off 16 (some 16)), (8, .int .i64 16), (9, .int .i64 0)] [some ⟨.ints .u8 zs, g, ow, e⟩, some ⟨.ints .u64 [0, 0], 0, true, 65⟩, some ⟨.ints .u64 [0, 0], 0, true, 65⟩] .normal [(2, .var 1 0), (3, .var 2 0)] [some ⟨.ints .u8 zs, g, ow, e⟩, some ⟨.ints .u64 [0, 0], 0, true, 65⟩, some ⟨.ints .u64 (gsLaw (subLaw zs off 16) 16), 0, true, 65⟩] := by
  refine To.rounds (fun i : Nat => [(2, .var 1 0), (3, .var 2 0), (7, .slice 1 0 g off 16 (some 16)), (8, .int .i64 16), (9, .int .i64 (i : Nat))]) (fun i => [some ⟨.ints .u8 zs, g, ow, e⟩, some ⟨.ints .u64 [0, 0], 0, true, 65⟩, some ⟨.ints .u64 (gsLaw (subLaw zs off 16) i), 0, true, 65⟩]) 16 (fun i hi => ?_) (To.of (o := D59s zs g e off ow (gsLaw (subLaw zs off 16) 16)) eA0_ok hmA (Nat.le_refl 3) OrcOk.nil rfl (D59s_ok trivial) D59s_ex D59s_fm D59s_tab)
  have e1 : ((i : Int).tdiv 8).toNat = i / 8 := by rw [Int.tdiv_eq_ediv_of_nonneg (by omega)]; omega
  have e2 : (subLaw zs off 16).getD i 0 = zs.getD (off + i) 0 := by
    unfold subLaw
    rw [List.getD_eq_getElem?_getD, List.getElem?_take_of_lt hi, ← List.getD_eq_getElem?_getD, getD_drop]
  have hz := hb.get (off + i)
  have hl := gs_len (subLaw zs off 16) i
  have e3 : (i : Int).tdiv 8 = ((i / 8 : Nat) : Int) := by rw [Int.tdiv_eq_ediv_of_nonneg (by omega)]; omega
  refine To.of (o := A59s zs g e off ow (gsLaw (subLaw zs off 16) i) (i : Nat)) eA0_ok hmA (Nat.le_refl 3) OrcOk.nil rfl (A59s_ok ?_) A59s_ex A59s_fm ?_
  · rw [e3]
    simp only [allP, Con.h, addO_eq, Int.toNat_natCast, decide_eq_true_eq, hl, and_true, true_and]
    generalize (gsLaw (subLaw zs off 16) i).getD (i / 8) 0 * 256 = y
    simp only [nonneg]
    omega
  · rw [A59s_tab, e1]
    simp only [addO_eq, Int.toNat_natCast, gsLaw, e2]
noncomputable def g59sc (vs : List AVal) (T : Tab) (zs : List Int) (g : Nat) (e : Nat) (off : Nat) (ow : Bool) : Out := ⟨[.tab T [some ⟨.ints .u8 zs, g, ow, e⟩, some ⟨.ints .u64 [0, 0], 0, true, 65⟩, some ⟨.ints .u64 [0, 0], 0, true, 65⟩], .val (.tuple vs) (.tuple [.var 1 0, .var 2 0, .slice 1 0 g off 16 (some 16), .int .i64 16, .int .i64 0]), .leN (off + 16) zs.length, .p (Bytes zs)], .normal, [(2, .var 1 0), (3, .var 2 0)], [some ⟨.ints .u8 zs, g, ow, e⟩, some ⟨.ints .u64 [0, 0], 0, true, 65⟩, some ⟨.ints .u64 (gsLaw (subLaw zs off 16) 16), 0, true, 65⟩], []⟩
theorem g59sc_ok {vs : List AVal} {T : Tab} {zs : List Int} {g : Nat} {e : Nat} {off : Nat} {ow : Bool} (h : Ok (g59sc vs T zs g e off ow)) : To (eA []) 27 3 (.block 0 (.loop (roundOf 0 f59))) (zipF [2,3,7,8,9] vs) T (g59sc vs T zs g e off ow).ex (g59sc vs T zs g e off ow).fm (g59sc vs T zs g e off ow).tab := by
  obtain ⟨hT, hv, h1, h2, _⟩ := h.h
  simp only [Con.h] at hT hv h1 h2
  injection hv with hv
  subst hT hv
  exact loop59s h1 h2
noncomputable def g59s : List AVal → Tab → Out := fun vs T => g59sc vs T (xsAt T 0) (gAt T 0) (etAt T 0) (offOf (vAt vs 2)) (owAt T 0)
theorem g59s_ok : BlkOk (eA []) f59 0 (.loop (roundOf 0 f59)) (blkS 3 [2,3,7,8,9] g59s) := blkS_ok fun vs T h => g59sc_ok h
noncomputable def orc59s : OrcL := [(0, blkS 3 [2,3,7,8,9] g59s)]
theorem orc59s_ok : FnOrc (eA []) f59 orc59s := FnOrc.cons g59s_ok (by kernel_rfl) FnOrc.nil
noncomputable def R59s (zs : List Int) (g e off : Nat) (ow : Bool) : Res := resG 1 [0] (runF (eA []) f59 orc59s 400 [.slice 1 0 g off 16 (some 16)] [some ⟨.ints .u8 zs, g, ow, e⟩] [])
theorem R59s_ok {zs : List Int} {g e off : Nat} {ow : Bool} (h : allP [.eqN g g, .eqN g g, .leN (addO off 0 + 16) zs.length, .p (Bytes zs)]) : OkR (R59s zs g e off ow) := OkR.dem (fl := bitsF 17 130573) (by kernel_rfl) (by kernel_rfl) (by kernel_rfl) h
theorem R59s_val {zs : List Int} {g e off : Nat} {ow : Bool} : (R59s zs g e off ow).val = .ints .u64 (gsLaw (subLaw zs (addO off 0) 16) 16) := by kernel_rfl
theorem R59s_tab {zs : List Int} {g e off : Nat} {ow : Bool} : (R59s zs g e off ow).tab = [some ⟨.ints .u8 zs, g, ow, e⟩] := by kernel_rfl
noncomputable def sm59sc (args : List AVal) (T : Tab) (zs : List Int) (g : Nat) (e : Nat) (off : Nat) (ow : Bool) (n : Nat) : Res := ⟨[.tab T [some ⟨.ints .u8 zs, g, ow, e⟩], .val (.tuple args) (.tuple [.slice 1 0 g off n (some 16)]), .leN (off + 16) zs.length, .p (Bytes zs), .eqN n 16], .ints .u64 (gwLaw (subLaw zs off 16)), [some ⟨.ints .u8 zs, g, ow, e⟩]⟩
theorem sm59sc_ok {args : List AVal} {T : Tab} {zs : List Int} {g : Nat} {e : Nat} {off : Nat} {ow : Bool} {n : Nat} (h : allP (sm59sc args T zs g e off ow n).cs) : Small prog (fun _ => none) 59 args T (sm59sc args T zs g e off ow n).val (sm59sc args T zs g e off ow n).tab := by
  obtain ⟨hT, hv, h1, h2, h3, _⟩ := h
  simp only [Con.h] at hT hv h1 h2 h3
  injection hv with hv
  subst hT hv
  subst h3
  have hs : Bytes (subLaw zs off 16) := (h2.drop off).take 16
  have hl : (subLaw zs off 16).length = 16 := subLaw_len (by omega)
  refine small_ofG (R := R59s zs g e off ow) (keep := [0]) eA0_ok hmA (f := 59) (fn := f59) (by kernel_rfl) (by kernel_rfl) orc59s_ok rfl (R59s_ok ?_) (by rw [R59s_val]; simp only [addO_eq, Nat.add_zero]; rw [gs_eq hs hl]; rfl) R59s_tab
  have hg := gs_len (subLaw zs off 16) 16
  simp only [allP, Con.h, addO_eq, Nat.add_zero, hg, h1, h2, eq_self, true_and, and_true]
  try omega
noncomputable def sm59s : Summary := fun args T => sm59sc args T (xsAt T 0) (gAt T 0) (etAt T 0) (offOf (vAt args 0)) (owAt T 0) (lenOf (vAt args 0))
theorem sm59s_ok : SmOk prog (fun _ => none) 59 sm59s := fun args T h => sm59sc_ok h
noncomputable def sm59 : Summary := fun args T => match capOf (vAt args 0) with
  | none => sm59n args T
  | some _ => sm59s args T
theorem sm59_ok : SmOk prog (fun _ => none) 59 sm59 := fun args T h => by
  unfold sm59 at h ⊢
  split at h
  · exact sm59n_ok args T h
  · exact sm59s_ok args T h
noncomputable def S59 : Summary := callR sm59 []
theorem S59_ok : SumOk prog (fun _ => none) 59 S59 := callR_ok sm59_ok []
/-! plus, put, times -/
noncomputable def R73 (p q : List Int) : Res := resG 0 [] (runF (eA []) f73 [] 400 [.ints .u64 p, .ints .u64 q] [] [])
theorem R73_ok {p q : List Int} (h : allP [.leN 1 p.length, .leN 1 q.length, .nn .u64 (p.getD 0 0), .nn .u64 (q.getD 0 0), .leN 2 p.length, .leN 2 q.length, .nn .u64 (p.getD 1 0), .nn .u64 (q.getD 1 0)]) : OkR (R73 p q) := OkR.dem (fl := bitsF 34 17165119983) (by kernel_rfl) (by kernel_rfl) (by kernel_rfl) h
theorem R73_val {p q : List Int} : (R73 p q).val = .ints .u64 [ixor (p.getD 0 0) (q.getD 0 0), ixor (p.getD 1 0) (q.getD 1 0)] := by kernel_rfl
theorem R73_tab {p q : List Int} : (R73 p q).tab = [] := by kernel_rfl
noncomputable def sm73c (args : List AVal) (T : Tab) (p : List Int) (q : List Int) : Res := ⟨[.tab T [], .val (.tuple args) (.tuple [.ints .u64 p, .ints .u64 q]), .p (WpLaw p), .p (WpLaw q)], .ints .u64 (xwLaw p q), []⟩
theorem sm73c_ok {args : List AVal} {T : Tab} {p : List Int} {q : List Int} (h : allP (sm73c args T p q).cs) : Small prog (fun _ => none) 73 args T (sm73c args T p q).val (sm73c args T p q).tab := by
  obtain ⟨hT, hv, h1, h2, _⟩ := h
  simp only [Con.h] at hT hv h1 h2
  injection hv with hv
  subst hT hv
  obtain ⟨x, hx, rfl⟩ := h1
  obtain ⟨y, hy, rfl⟩ := h2
  refine small_ofG (R := R73 (wN x) (wN y)) (keep := []) eA0_ok hmA (f := 73) (fn := f73) (by kernel_rfl) (by kernel_rfl) FnOrc.nil rfl (R73_ok ?_) (R73_val.trans (congrArg (AVal.ints .u64) ((wN_xor x y).symm.trans (xw_wN x y).symm))) R73_tab
  simp only [allP, Con.h, wN_len, wN_nn hx, wN_nn hy, and_true]
  decide
noncomputable def sm73 : Summary := fun args T => sm73c args T (xsOf (vAt args 0)) (xsOf (vAt args 1))
theorem sm73_ok : SmOk prog (fun _ => none) 73 sm73 := fun args T h => sm73c_ok h
noncomputable def S73 : Summary := callR sm73 []
theorem S73_ok : SumOk prog (fun _ => none) 73 S73 := callR_ok sm73_ok []
noncomputable def R61 (p0 p1 : Int) : Res := resG 0 [2] (runF (eA []) f61 [] 2000 [.ints .u64 [p0, p1]] [] [])
theorem R61_ok {p0 p1 : Int} (h : allP []) : OkR (R61 p0 p1) := OkR.dem (fl := bitsF 184 24519928653854221733733552434404946937899825954937634815) (by kernel_rfl) (by kernel_rfl) (by kernel_rfl) h
theorem R61_val {p0 p1 : Int} : (R61 p0 p1).val = .slice 1 0 15 0 16 none := by kernel_rfl
theorem R61_tab {p0 p1 : Int} : (R61 p0 p1).tab = [some ⟨.ints .u8 [p0 / 72057594037927936 % 256, p0 / 281474976710656 % 256, p0 / 1099511627776 % 256, p0 / 4294967296 % 256, p0 / 16777216 % 256, p0 / 65536 % 256, p0 / 256 % 256, p0 / 1 % 256, p1 / 72057594037927936 % 256, p1 / 281474976710656 % 256, p1 / 1099511627776 % 256, p1 / 4294967296 % 256, p1 / 16777216 % 256, p1 / 65536 % 256, p1 / 256 %
 256, p1 / 1 % 256], 15, true, 5⟩] := by kernel_rfl
theorem put_eq {x : Nat} (h : x < 2 ^ 128) : [(wN x).getD 0 0 / 72057594037927936 % 256, (wN x).getD 0 0 / 281474976710656 % 256, (wN x).getD 0 0 / 1099511627776 % 256, (wN x).getD 0 0 / 4294967296 % 256,
              (wN x).getD 0 0 / 16777216 % 256, (wN x).getD 0 0 / 65536 % 256, (wN x).getD 0 0 / 256 % 256, (wN x).getD 0 0 / 1 % 256, (wN x).getD 1 0 / 72057594037927936 % 256,
              (wN x).getD 1 0 / 281474976710656 % 256, (wN x).getD 1 0 / 1099511627776 % 256, (wN x).getD 1 0 / 4294967296 % 256, (wN x).getD 1 0 / 16777216 % 256,
              (wN x).getD 1 0 / 65536 % 256, (wN x).getD 1 0 / 256 % 256, (wN x).getD 1 0 / 1 % 256] = bN x := by
  have hx := wN_hi h
  rw [bN_w h]
  simp only [l16, Nat.shiftRight_eq_div_pow]
  simp only [wN, Nat.shiftRight_eq_div_pow, List.getD_cons_zero, List.getD_cons_succ, Int.toNat_natCast, show ∀ n, n / 8 * 1 = n / 8 by omega, Nat.reduceDiv, Nat.reduceMod, Nat.reduceMul, Nat.reduceSub, Nat.reducePow, List.cons.injEq, and_true]
  omega
noncomputable def sm61c (args : List AVal) (T : Tab) (p : List Int) : Res := ⟨[.tab T [], .val (.tuple args) (.tuple [.ints .u64 p]), .p (WpLaw p)], .slice 1 0 15 0 16 none, [some ⟨.ints .u8 (ptLaw p), 15, true, 5⟩]⟩
theorem sm61c_ok {args : List AVal} {T : Tab} {p : List Int} (h : allP (sm61c args T p).cs) : Small prog (fun _ => none) 61 args T (sm61c args T p).val (sm61c args T p).tab := by
  obtain ⟨hT, hv, h1, _⟩ := h
  simp only [Con.h] at hT hv h1
  injection hv with hv
  subst hT hv
  obtain ⟨x, hx, rfl⟩ := h1
  refine small_ofG (R := R61 ((wN x).getD 0 0) ((wN x).getD 1 0)) (keep := [2]) eA0_ok hmA (f := 61) (fn := f61) (by kernel_rfl) (by kernel_rfl) FnOrc.nil rfl (R61_ok trivial) R61_val (by rw [R61_tab, put_eq hx, ← pt_wN]; rfl)
noncomputable def sm61 : Summary := fun args T => sm61c args T (xsOf (vAt args 0))
theorem sm61_ok : SmOk prog (fun _ => none) 61 sm61 := fun args T h => sm61c_ok h
noncomputable def S61 : Summary := callR sm61 []
theorem S61_ok : SumOk prog (fun _ => none) 61 S61 := callR_ok sm61_ok []
noncomputable def eG1 : Env := eA [(73, S73)]
theorem eG1_ok : EnvOk eG1 := envOf_ok tysA_ok (SumsOk.cons (fn := f73) S73_ok (by kernel_rfl) (by kernel_rfl) (by kernel_rfl) trivial)
noncomputable def A60 (ps qs os : List Int) (i : Int) : Out := trim 4 4 [2,3,4,5,8] (run eG1 43 ⟨4, []⟩ 400 (roundOf 0 f60) [(2, .var 0 0), (3, .var 1 0), (4, .var 2 0), (5, .var 3 0), (8, .int .i64 i)] [some ⟨.ints .u64 ps, 0, true, 65⟩, some ⟨.ints .u64 qs, 0, true, 65⟩, some ⟨.ints .u64 [0, 0], 0, true, 65⟩, some ⟨.ints .u64 os, 0, true, 65⟩] [some true, some true])
theorem A60_ok {ps qs os : List Int} {i : Int} (h : allP [.p (decide (i < 128) = true), .rng (-9223372036854775808) (i.tdiv 64) 9223372036854775807, .leI 0 (i.tdiv 64), .leI (i.tdiv 64 + 1) 2, .leN ((i.tdiv 64).toNat + 1) qs.length, .rng (-9223372036854775808) (63 - i.tmod 64) 9223372036854775807, .rng 0 (63 - i.tmod 64) 64, .nn .u64 (qs.getD (i.tdiv 64).toNat 0 / 2 ^ (63 - i.tmod 64).toNat), .p
 ((iand (qs.getD (i.tdiv 64).toNat 0 / 2 ^ (63 - i.tmod 64).toNat) 1 == 1) = true), .eqN os.length 2, .eqN ps.length 2, .p (WpLaw os), .p (WpLaw ps), .eqN os.length 2, .leN 2 ps.length, .nn .u64 (ps.getD 1 0), .leN 1 ps.length, .nn .u64 (ps.getD 0 0 / 2), .nn .u64 (iand (ps.getD 1 0) 1 * 16212958658533785600 % 18446744073709551616), .leN 2 ps.length, .leN 1 ps.length, .nn .u64 (ps.getD 1 0 / 2), .nn
 .u64 (ps.getD 0 0 * 9223372036854775808 % 18446744073709551616), .eqN ps.length 2, .rng (-9223372036854775808) (i + 1) 9223372036854775807]) : Ok (A60 ps qs os i) := Ok.dem (fl := bitsF 64 6888218655742579042) (by kernel_rfl) (by kernel_rfl) (by kernel_rfl) h
theorem A60_ex {ps qs os : List Int} {i : Int} : (A60 ps qs os i).ex = .normal := by kernel_rfl
theorem A60_fm {ps qs os : List Int} {i : Int} : (A60 ps qs os i).fm = [(2, .var 0 0), (3, .var 1 0), (4, .var 2 0), (5, .var 3 0), (8, .int .i64 (i + 1))] := by kernel_rfl
theorem A60_tab {ps qs os : List Int} {i : Int} : (A60 ps qs os i).tab = [some ⟨.ints .u64 [ixor (ps.getD 0 0 / 2) (iand (ps.getD 1 0) 1 * 16212958658533785600 % 18446744073709551616), ior (ps.getD 1 0 / 2) (ps.getD 0 0 * 9223372036854775808 % 18446744073709551616)], 0, true, 65⟩, some ⟨.ints .u64 qs, 0, true, 65⟩, some ⟨.ints .u64 [0, 0], 0, true, 65⟩, some ⟨.ints .u64 (xwLaw os ps), 0, true, 65⟩]
 := by kernel_rfl
noncomputable def B60 (ps qs os : List Int) (i : Int) : Out := trim 4 4 [2,3,4,5,8] (run eG1 43 ⟨4, []⟩ 400 (roundOf 0 f60) [(2, .var 0 0), (3, .var 1 0), (4, .var 2 0), (5, .var 3 0), (8, .int .i64 i)] [some ⟨.ints .u64 ps, 0, true, 65⟩, some ⟨.ints .u64 qs, 0, true, 65⟩, some ⟨.ints .u64 [0, 0], 0, true, 65⟩, some ⟨.ints .u64 os, 0, true, 65⟩] [some true, some false])
theorem B60_ok {ps qs os : List Int} {i : Int} (h : allP [.p (decide (i < 128) = true), .rng (-9223372036854775808) (i.tdiv 64) 9223372036854775807, .leI 0 (i.tdiv 64), .leI (i.tdiv 64 + 1) 2, .leN ((i.tdiv 64).toNat + 1) qs.length, .rng (-9223372036854775808) (63 - i.tmod 64) 9223372036854775807, .rng 0 (63 - i.tmod 64) 64, .nn .u64 (qs.getD (i.tdiv 64).toNat 0 / 2 ^ (63 - i.tmod 64).toNat), .p
 ((iand (qs.getD (i.tdiv 64).toNat 0 / 2 ^ (63 - i.tmod 64).toNat) 1 == 1) = false), .leN 2 ps.length, .nn .u64 (ps.getD 1 0), .leN 1 ps.length, .nn .u64 (ps.getD 0 0 / 2), .nn .u64 (iand (ps.getD 1 0) 1 * 16212958658533785600 % 18446744073709551616), .leN 2 ps.length, .leN 1 ps.length, .nn .u64 (ps.getD 1 0 / 2), .nn .u64 (ps.getD 0 0 * 9223372036854775808 % 18446744073709551616), .eqN ps.length 2,
 .rng (-9223372036854775808) (i + 1) 9223372036854775807]) : Ok (B60 ps qs os i) := Ok.dem (fl := bitsF 52 1681694007742818) (by kernel_rfl) (by kernel_rfl) (by kernel_rfl) h
theorem B60_ex {ps qs os : List Int} {i : Int} : (B60 ps qs os i).ex = .normal := by kernel_rfl
theorem B60_fm {ps qs os : List Int} {i : Int} : (B60 ps qs os i).fm = [(2, .var 0 0), (3, .var 1 0), (4, .var 2 0), (5, .var 3 0), (8, .int .i64 (i + 1))] := by kernel_rfl
theorem B60_tab {ps qs os : List Int} {i : Int} : (B60 ps qs os i).tab = [some ⟨.ints .u64 [ixor (ps.getD 0 0 / 2) (iand (ps.getD 1 0) 1 * 16212958658533785600 % 18446744073709551616), ior (ps.getD 1 0 / 2) (ps.getD 0 0 * 9223372036854775808 % 18446744073709551616)], 0, true, 65⟩, some ⟨.ints .u64 qs, 0, true, 65⟩, some ⟨.ints .u64 [0, 0], 0, true, 65⟩, some ⟨.ints .u64 os, 0, true, 65⟩] := by
 kernel_rfl
noncomputable def D60 (ps qs os : List Int) : Out := trim 4 4 [4,5] (run eG1 43 ⟨4, []⟩ 400 (roundOf 0 f60) [(2, .var 0 0), (3, .var 1 0), (4, .var 2 0), (5, .var 3 0), (8, .int .i64 128)] [some ⟨.ints .u64 ps, 0, true, 65⟩, some ⟨.ints .u64 qs, 0, true, 65⟩, some ⟨.ints .u64 [0, 0], 0, true, 65⟩, some ⟨.ints .u64 os, 0, true, 65⟩] [])
theorem D60_ok {ps qs os : List Int} (h : allP []) : Ok (D60 ps qs os) := Ok.dem (fl := []) (by kernel_rfl) (by kernel_rfl) (by kernel_rfl) h
theorem D60_ex {ps qs os : List Int} : (D60 ps qs os).ex = .exit 0 := by kernel_rfl
theorem D60_fm {ps qs os : List Int} : (D60 ps qs os).fm = [(4, .var 2 0), (5, .var 3 0)] := by kernel_rfl
theorem D60_tab {ps qs os : List Int} : (D60 ps qs os).tab = [some ⟨.ints .u64 ps, 0, true, 65⟩, some ⟨.ints .u64 qs, 0, true, 65⟩, some ⟨.ints .u64 [0, 0], 0, true, 65⟩, some ⟨.ints .u64 os, 0, true, 65⟩] := by kernel_rfl
def T60 (a b i : Nat) : Tab := [some ⟨.ints .u64 (wN (apN a i)), 0, true, 65⟩, some ⟨.ints .u64 (wN b), 0, true, 65⟩, some ⟨.ints .u64 [0, 0], 0, true, 65⟩, some ⟨.ints .u64 (wN (accN a b i)), 0, true, 65⟩]
theorem loop60 {a b : Nat} (ha : a < 2 ^ 128) (hb : b < 2 ^ 128) : To eG1 43 4 (.block 0 (.loop (roundOf 0 f60))) [(2, .var 0 0), (3, .var 1 0), (4, .var 2 0), (5, .var 3 0), (8, .int .i64 0)] (T60 a b 0) .normal [(4, .var 2 0), (5, .var 3 0)] (T60 a b 128) := by
  refine To.rounds (fun i : Nat => [(2, .var 0 0), (3, .var 1 0), (4, .var 2 0), (5, .var 3 0), (8, .int .i64 (i : Nat))]) (T60 a b) 128 (fun i hi => ?_) (To.of (o := D60 (wN (apN a 128)) (wN b) (wN (accN a b 128))) eG1_ok hmA (Nat.le_refl 4) OrcOk.nil rfl (D60_ok trivial) D60_ex D60_fm D60_tab)
  have h1 := apN_lt ha i
  have h2 := accN_lt b ha i
  have hbit := wN_bit (x := b) hi
  have hd := wN_d h1
  have e0 : (i : Int).tdiv 64 = ((i / 64 : Nat) : Int) := by rw [Int.tdiv_eq_ediv_of_nonneg (by omega)]; omega
  have e1 : (i : Int).tmod 64 = ((i % 64 : Nat) : Int) := by rw [Int.tmod_eq_emod_of_nonneg (by omega)]; omega
  have ei : ((i / 64 : Nat) : Int).toNat = i / 64 := Int.toNat_natCast _
  have hq := wN_nn hb (i / 64)
  have hq2 : nonneg .u64 ((wN b).getD (i / 64) 0 / 2 ^ (63 - ((i % 64 : Nat) : Int)).toNat) := by
    have hp : (0 : Int) < 2 ^ (63 - ((i % 64 : Nat) : Int)).toNat := by
      have := Nat.two_pow_pos (63 - ((i % 64 : Nat) : Int)).toNat
      have e : (2 : Int) ^ (63 - ((i % 64 : Nat) : Int)).toNat = ((2 ^ (63 - ((i % 64 : Nat) : Int)).toNat : Nat) : Int) := by simp
      rw [e]; omega
    exact ⟨Int.ediv_nonneg hq.1 (by omega), Int.lt_of_le_of_lt (Int.ediv_le_self _ hq.1) hq.2⟩
  have n1 : nonneg .u64 ((wN (apN a i)).getD 0 0 / 2) := by have := wN_nn h1 0; simp only [nonneg] at this ⊢; omega
  have n2 : nonneg .u64 ((wN (apN a i)).getD 1 0 / 2) := by have := wN_nn h1 1; simp only [nonneg] at this ⊢; omega
  have n3 : ∀ z : Int, nonneg .u64 (z % 18446744073709551616) := fun z => by simp only [nonneg]; omega
  have hrange : (i / 64) + 1 ≤ 2 := by omega
  by_cases hc : b.testBit (127 - i) = true
  · refine To.of (o := A60 (wN (apN a i)) (wN b) (wN (accN a b i)) (i : Nat)) eG1_ok hmA (Nat.le_refl 4) OrcOk.nil rfl (A60_ok ?_) A60_ex A60_fm ?_
    · rw [hc] at hbit
      simp only [allP, Con.h, hbit, wN_len, WpLaw.of h1, WpLaw.of h2, wN_nn h1, wN_nn h2, n1, n2, n3, decide_eq_true_eq, and_true, true_and]
      rw [e0, e1, ei]
      simp only [hq2, and_true, true_and]
      omega
    · rw [A60_tab, xw_wN]
      show _ = ([some ⟨.ints .u64 (wN (dN (apN a i))), 0, true, 65⟩, some ⟨.ints .u64 (wN b), 0, true, 65⟩, some ⟨.ints .u64 [0, 0], 0, true, 65⟩, some ⟨.ints .u64 (wN (accN a b i ^^^ (if b.testBit (127 - i) then apN a i else 0))), 0, true, 65⟩] : Tab)
      rw [if_pos hc, hd]
  · rw [Bool.not_eq_true] at hc
    refine To.of (o := B60 (wN (apN a i)) (wN b) (wN (accN a b i)) (i : Nat)) eG1_ok hmA (Nat.le_refl 4) OrcOk.nil rfl (B60_ok ?_) B60_ex B60_fm ?_
    · rw [hc] at hbit
      simp only [allP, Con.h, hbit, wN_len, WpLaw.of h1, WpLaw.of h2, wN_nn h1, wN_nn h2, n1, n2, n3, decide_eq_true_eq, and_true, true_and]
      rw [e0, e1, ei]
      simp only [hq2, and_true, true_and]
      omega
    · rw [B60_tab]
      show _ = ([some ⟨.ints .u64 (wN (dN (apN a i))), 0, true, 65⟩, some ⟨.ints .u64 (wN b), 0, true, 65⟩, some ⟨.ints .u64 [0, 0], 0, true, 65⟩, some ⟨.ints .u64 (wN (accN a b i ^^^ (if b.testBit (127 - i) then apN a i else 0))), 0, true, 65⟩] : Tab)
      rw [if_neg (by rw [hc]; decide), hd, Nat.xor_zero]
noncomputable def g60c (vs : List AVal) (T : Tab) (p : List Int) (q : List Int) : Out := ⟨[.tab T [some ⟨.ints .u64 p, 0, true, 65⟩, some ⟨.ints .u64 q, 0, true, 65⟩, some ⟨.ints .u64 [0, 0], 0, true, 65⟩, some ⟨.ints .u64 [0, 0], 0, true, 65⟩], .val (.tuple vs) (.tuple [.var 0 0, .var 1 0, .var 2 0, .var 3 0, .int .i64 0]), .p (WpLaw p), .p (WpLaw q)], .normal, [(4, .var 2 0), (5, .var 3 0)], [some ⟨.ints .u64 (p128Law p), 0, true, 65⟩, some ⟨.ints .u64 q, 0, true, 65⟩, some ⟨.ints .u64 [0, 0], 0, true, 65⟩, some ⟨.ints .u64 (mwLaw p q), 0, true, 65⟩], []⟩
theorem g60c_ok {vs : List AVal} {T : Tab} {p : List Int} {q : List Int} (h : Ok (g60c vs T p q)) : To eG1 43 4 (.block 0 (.loop (roundOf 0 f60))) (zipF [2,3,4,5,8] vs) T (g60c vs T p q).ex (g60c vs T p q).fm (g60c vs T p q).tab := by
  obtain ⟨hT, hv, h1, h2, _⟩ := h.h
  simp only [Con.h] at hT hv h1 h2
  injection hv with hv
  subst hT hv
  obtain ⟨x, hx, rfl⟩ := h1
  obtain ⟨y, hy, rfl⟩ := h2
  have := loop60 hx hy
  rw [show T60 x y 0 = ([some ⟨.ints .u64 (wN x), 0, true, 65⟩, some ⟨.ints .u64 (wN y), 0, true, 65⟩, some ⟨.ints .u64 [0, 0], 0, true, 65⟩, some ⟨.ints .u64 [0, 0], 0, true, 65⟩] : Tab) by kernel_rfl, show T60 x y 128 = ([some ⟨.ints .u64 (wN (apN x 128)), 0, true, 65⟩, some ⟨.ints .u64 (wN y), 0, true, 65⟩, some ⟨.ints .u64 [0, 0], 0, true, 65⟩, some ⟨.ints .u64 (wN (mulN x y)), 0, true, 65⟩] : Tab) by rfl, ← p128_wN, ← mw_wN] at this
  exact this
noncomputable def g60 : List AVal → Tab → Out := fun vs T => g60c vs T (xsAt T 0) (xsAt T 1)
theorem g60_ok : BlkOk eG1 f60 0 (.loop (roundOf 0 f60)) (blkS 4 [2,3,4,5,8] g60) := blkS_ok fun vs T h => g60c_ok h
noncomputable def orc60 : OrcL := [(0, blkS 4 [2,3,4,5,8] g60)]
theorem orc60_ok : FnOrc eG1 f60 orc60 := FnOrc.cons g60_ok (by kernel_rfl) FnOrc.nil
noncomputable def R60 (p q : List Int) : Res := resG 0 [] (runF eG1 f60 orc60 400 [.ints .u64 p, .ints .u64 q] [] [])
theorem R60_ok {p q : List Int} (h : allP [.p (WpLaw p), .p (WpLaw q)]) : OkR (R60 p q) := OkR.dem (fl := bitsF 12 4080) (by kernel_rfl) (by kernel_rfl) (by kernel_rfl) h
theorem R60_val {p q : List Int} : (R60 p q).val = .ints .u64 (mwLaw p q) := by kernel_rfl
theorem R60_tab {p q : List Int} : (R60 p q).tab = [] := by kernel_rfl
noncomputable def sm60c (args : List AVal) (T : Tab) (p : List Int) (q : List Int) : Res := ⟨[.tab T [], .val (.tuple args) (.tuple [.ints .u64 p, .ints .u64 q]), .p (WpLaw p), .p (WpLaw q)], .ints .u64 (mwLaw p q), []⟩
theorem sm60c_ok {args : List AVal} {T : Tab} {p : List Int} {q : List Int} (h : allP (sm60c args T p q).cs) : Small prog (fun _ => none) 60 args T (sm60c args T p q).val (sm60c args T p q).tab := by
  obtain ⟨hT, hv, h1, h2, _⟩ := h
  simp only [Con.h] at hT hv h1 h2
  injection hv with hv
  subst hT hv
  refine small_ofG (R := R60 p q) (keep := []) eG1_ok hmA (f := 60) (fn := f60) (by kernel_rfl) (by kernel_rfl) orc60_ok rfl (R60_ok ?_) R60_val R60_tab
  have l1 := h1.len
  have l2 := h2.len
  have l3 := (h1.mw (q := q)).len
  simp only [allP, Con.h, l1, l2, l3, h1, h2, and_true, true_and]
noncomputable def sm60 : Summary := fun args T => sm60c args T (xsOf (vAt args 0)) (xsOf (vAt args 1))
theorem sm60_ok : SmOk prog (fun _ => none) 60 sm60 := fun args T h => sm60c_ok h
noncomputable def S60 : Summary := callR sm60 []
theorem S60_ok : SumOk prog (fun _ => none) 60 S60 := callR_ok sm60_ok []
end Go.Abs

set_option linter.unusedVariables false
set_option linter.unusedSimpArgs false
set_option maxRecDepth 8000
namespace Go.Abs
open Go.Proofs.Try
noncomputable def orc23 : OrcL := [(0, blkS 5 [6,7,8,9] g23)]
theorem orc23_ok : FnOrc eP f23 orc23 := FnOrc.cons g23_ok (by kernel_rfl) FnOrc.nil
noncomputable def R23 (zs bs : List Int) (g0 g1 e1 : Nat) (cp0 cp1 : Option Nat) (ow0 ow1 : Bool) : Res := resG 2 [0,1,4] (runF eP f23 orc23 400 [.slice 1 0 g0 0 16 cp0, .slice 1 1 g1 0 16 cp1] [some ⟨.ints .u8 zs, g0, ow0, 5⟩, some ⟨.ints .u8 bs, g1, ow1, e1⟩] [])
theorem R23_ok {zs bs : List Int} {g0 g1 e1 : Nat} {cp0 cp1 : Option Nat} {ow0 ow1 : Bool} (h : allP [.eqN g0 g0, .eqN g1 g1, .eqN g0 g0, .eqN g0 g0, .leN 16 zs.length, .p (TABLaw = TABLaw), .p (Bytes (subLaw zs 0 16)), .eqN (ksLaw (subLaw zs 0 16) 176).length 176, .eqN g1 g1, .eqN g1 g1, .leN 16 bs.length, .leN 16 (ksLaw (subLaw zs 0 16) 176).length, .eqN (List.take 16 bs).length 16, .eqN
 (List.take 16 (ksLaw (subLaw zs 0 16) 176)).length 16, .p (Bytes (List.take 16 bs)), .p (Bytes (List.take 16 (ksLaw (subLaw zs 0 16) 176))), .p (TABLaw = TABLaw), .eqN (ksLaw (subLaw zs 0 16) 176).length 176, .p (Bytes (ksLaw (subLaw zs 0 16) 176)), .p (Bytes (subLaw bs 0 16)), .p (plusLaw (List.take 16 bs) (List.take 16 (ksLaw (subLaw zs 0 16) 176)) = encLaw (ksLaw (subLaw zs 0 16) 176) (subLaw bs
 0 16) 0)]) : OkR (R23 zs bs g0 g1 e1 cp0 cp1 ow0 ow1) := OkR.dem (fl := bitsF 47 132143266765332) (by kernel_rfl) (by kernel_rfl) (by kernel_rfl) h
theorem R23_val {zs bs : List Int} {g0 g1 e1 : Nat} {cp0 cp1 : Option Nat} {ow0 ow1 : Bool} : (R23 zs bs g0 g1 e1 cp0 cp1 ow0 ow1).val = .tuple [.slice 1 2 0 0 16 (some 16), .int .i64 0] := by kernel_rfl
theorem R23_tab {zs bs : List Int} {g0 g1 e1 : Nat} {cp0 cp1 : Option Nat} {ow0 ow1 : Bool} : (R23 zs bs g0 g1 e1 cp0 cp1 ow0 ow1).tab = [some ⟨.ints .u8 zs, g0, ow0, 5⟩, some ⟨.ints .u8 bs, g1, ow1, e1⟩, some ⟨.ints .u8 (blockLaw (ksLaw (subLaw zs 0 16) 176) (subLaw bs 0 16)), 0, true, 48⟩] := by kernel_rfl
def sm23 : Summary := fun args T => match args, T with
  | [.slice 1 0 g0 0 16 cp0, .slice 1 1 g1 0 16 cp1], [some ⟨.ints .u8 zs, g0', ow0, 5⟩, some ⟨.ints .u8 bs, g1', ow1, e1⟩] =>
    ⟨[.eqN g0 g0', .eqN g1 g1', .leN 16 zs.length, .leN 16 bs.length, .p (Bytes (subLaw zs 0 16)), .p (Bytes (subLaw bs 0 16))], .tuple [.slice 1 2 0 0 16 (some 16), .int .i64 0],
      [some ⟨.ints .u8 zs, g0', ow0, 5⟩, some ⟨.ints .u8 bs, g1', ow1, e1⟩, some ⟨.ints .u8 (blockLaw (ksLaw (subLaw zs 0 16) 176) (subLaw bs 0 16)), 0, true, 48⟩]⟩
  | _, _ => fail
theorem sm23_ok : SmOk prog (fun _ => none) 23 sm23 := by
  intro args T hc
  unfold sm23 at hc ⊢
  split at hc
  · rename_i g0 cp0 g1 cp1 zs g0' ow0 bs g1' ow1 e1
    obtain ⟨h1, h2, h3, h4, h5, h6, _⟩ := hc
    simp only [Con.h] at h1 h2 h3 h4 h5 h6
    subst h1 h2
    have hl := ksLaw_len (subLaw_len (zs := zs) (off := 0) (n := 16) (by omega)) (n := 176) (by decide)
    have hb := ksLaw_bytes h5 176
    have hs : (subLaw bs 0 16).length = 16 := subLaw_len (by omega)
    have e0 : ∀ l : List Int, List.take 16 l = subLaw l 0 16 := fun l => rfl
    refine small_ofG (keep := [0,1,4]) (R := R23 zs bs g0 g1 e1 cp0 cp1 ow0 ow1) eP_ok hmA (f := 23) (fn := f23) (by kernel_rfl) (by kernel_rfl) orc23_ok rfl (R23_ok ?_) R23_val R23_tab
    generalize ksLaw (subLaw zs 0 16) 176 = ks at hl hb ⊢
    have hsk : (subLaw ks 0 16).length = 16 := subLaw_len (by omega)
    have hbk := sub_bytes hb 0 16
    have hd := dec_bytes h6 (ks := ks) 10
    simp only [allP, Con.h, e0, hl, hb, hs, hsk, hbk, hd, h3, h4, h5, h6, eq_self, and_true, true_and]
    first | omega | exact ⟨by omega, rfl⟩ | rfl | trivial
  · exact absurd hc nofail
def S23 : Summary := callR sm23 []
theorem S23_ok : SumOk prog (fun _ => none) 23 S23 := callR_ok sm23_ok []
end Go.Abs

set_option linter.unusedVariables false
set_option linter.unusedSimpArgs false
set_option maxRecDepth 8000
namespace Go.Abs
open Go.Proofs.Try
/-! ### nothing, told as a slice of an empty object -/
def subA : Fm → Fm → Prop
  | [], _ => True
  | (t, v) :: r, fm => look fm t = some v ∧ subA r fm
theorem subA_ok {fm : Fm} : ∀ {f : Fm}, subA f fm → ∀ t v, look f t = some v → look fm t = some v
  | [], _, t, v, h => by cases h
  | (s, u) :: r, h, t, v, hl => by
    simp only [look] at hl
    split at hl
    · rename_i e
      have := Nat.eq_of_beq_eq_true e
      subst this
      injection hl with hl; subst hl
      exact h.1
    · exact subA_ok h.2 t v hl
theorem AWp.fmSub {E : Env} {n k : Nat} {c : Code} {fm f : Fm} {T : Tab} {post : AExit → Fm → Tab → Prop} (hs : subA f fm) (h : AWp E n k c f T post) : AWp E n k c fm T post :=
  fun rr D ν a w hr hrd => h rr D ν a w ⟨hr.hr, fun t v hv => hr.fm t v (subA_ok hs t v hv), hr.size, hr.defers⟩ hrd
def fillNil (p : Nat) : AVal → AVal
  | .nilSlice => .slice 1 p 0 0 0 none
  | v => v
theorem small_fill {P : Program} {gl : Nat → Option AVal} {f : FuncId} {args args2 : List AVal} {T T2 : Tab} {v : AVal} {T1 : Tab} (e1 : args2 = args.map (fillNil T.length)) (e2 : T2 = T ++ [some ⟨.ints .u8 [], 0, true, 5⟩]) (h : Small P gl f args2 T2 v T1) : Small P gl f args T v T1 := by
  subst e1 e2
  intro ν w vs hr hvs
  obtain ⟨l0, g1, g2, g3, g4, g5⟩ := hr.pushEmpty .u8 5
  refine (h _ w vs g3 ⟨by simpa using hvs.1, fun i hi => ?_⟩).mono ?_
  · have hi' : i < args.length := by simpa using hi
    have h0 := hvs.2 i hi'
    have e : (args.map (fillNil T.length)).getD i un = fillNil T.length (args.getD i un) := by
      simp [List.getD, List.getElem?_eq_getElem hi']
    rw [e]
    generalize args.getD i un = v at h0 ⊢
    generalize vs.toList.getD i undef = x at h0 ⊢
    cases v with
    | nilSlice => exact VR.nil_slice (upd_same _ _ _) g1 g2 (.inr rfl) (h0.mono g4)
    | _ => exact h0.mono g4
  · rintro e w' ⟨x, ν', rfl, h1, h2, h3, h4⟩
    refine ⟨x, ν', rfl, h1, h2, (g4.b T.length).trans (fun p hp => h3 p (by simp; omega)), ?_⟩
    exact ⟨h4.os, h4.tape, h4.output, h4.size, fun b hb hO => h4.block b hb (fun h => hO (g5 b h)), fun b hb => (h4.own b hb).imp (g5 b) id⟩
theorem HR.pushEmptyG {gl : Nat → Option AVal} {ν : Nu} {T : Tab} {w : World} (hr : HR gl ν T w) (kk : IntKind) (et : TypeId) (gg : Nat) :
    ∃ l0 : Loc, l0.g = gg ∧ l0.room = 0 ∧ HR gl (upd ν T.length l0) (T ++ [some ⟨.ints kk [], gg, true, et⟩]) w ∧ NuLe ν (upd ν T.length l0) ∧ (∀ b, Own (upd ν T.length l0) (T ++ [some ⟨.ints kk [], gg, true, et⟩]) b → Own ν T b) := by
  have hn : ν T.length = none := by
    cases hν : ν T.length with
    | none => rfl
    | some l => have := hr.lt _ l hν; omega
  obtain ⟨l0, hl0⟩ : ∃ l0 : Loc, l0 = ⟨⟨0, 0, none⟩, gg, 0⟩ := ⟨_, rfl⟩
  have hm : NuLe ν (upd ν T.length l0) := NuLe.upd_new (ν := ν) l0 hn
  have same : ∀ p, p ≠ T.length → upd ν T.length l0 p = ν p := fun p hp => upd_other ν l0 hp
  have self : upd ν T.length l0 T.length = some l0 := upd_same ν _ l0
  have getT : ∀ p o, (T ++ [some (⟨.ints kk [], gg, true, et⟩ : AObj)])[p]? = some o → (p < T.length ∧ T[p]? = some o) ∨ (p = T.length ∧ o = some ⟨.ints kk [], gg, true, et⟩) := by
    intro p o ho
    rcases Nat.lt_or_ge p T.length with hp | hp
    · rw [List.getElem?_append_left hp] at ho; exact .inl ⟨hp, ho⟩
    · rw [List.getElem?_append_right hp] at ho
      have hlt := (List.getElem?_eq_some_iff.1 ho).1
      have hp0 : p = T.length := by simp at hlt; omega
      subst hp0
      simp at ho
      exact .inr ⟨rfl, ho.symm⟩
  have hown : ∀ b, Own (upd ν T.length l0) (T ++ [some ⟨.ints kk [], gg, true, et⟩]) b → Own ν T b := by
    rintro b ⟨p, o, l, h1, h2, h3, h4, h5⟩
    rcases getT p _ h1 with ⟨hp, h1⟩ | ⟨hp, h1⟩
    · rw [same p (by omega)] at h3; exact ⟨p, o, l, h1, h2, h3, h4, h5⟩
    · subst hp; rw [self] at h3; injection h3 with h3; subst h3; subst hl0; simp at h4
  refine ⟨l0, by rw [hl0], by rw [hl0], ⟨fun p o l ho hl => ?_, fun p l hl => ?_, fun p hp => ?_, fun p l hl h0 => ?_, fun p q o o' l l' ho ho' hw hne hl hl' h0 h0' => ?_, fun b d hb => ?_⟩, hm, hown⟩
  · rcases getT p _ ho with ⟨hp, h1⟩ | ⟨hp, h1⟩
    · rw [same p (by omega)] at hl
      obtain ⟨g1, g2⟩ := hr.obj p o l h1 hl
      exact ⟨g1, g2.kept hm fun _ => rfl⟩
    · subst hp; rw [self] at hl; injection hl with hl; subst hl; subst hl0
      injection h1 with h1; subst h1
      exact ⟨rfl, .ints _ _, .inr (.inr ⟨rfl, rfl⟩)⟩
  · by_cases e : p = T.length
    · subst e; simp
    · rw [same p e] at hl; have := hr.lt p l hl; simp; omega
  · rcases getT p _ hp with ⟨hp', h1⟩ | ⟨hp', h1⟩
    · rw [same p (by omega)]; exact hr.hole p h1
    · cases h1
  · by_cases e : p = T.length
    · subst e; rw [self] at hl; injection hl with hl; subst hl; subst hl0; simp at h0
    · rw [same p e] at hl; exact hr.blk p l hl h0
  · rcases getT p _ ho with ⟨hp, h1⟩ | ⟨hp, h1⟩
    · rcases getT q _ ho' with ⟨hq, h2⟩ | ⟨hq, h2⟩
      · rw [same p (by omega)] at hl; rw [same q (by omega)] at hl'
        exact hr.sep p q o o' l l' h1 h2 hw hne hl hl' h0 h0'
      · subst hq; rw [self] at hl'; injection hl' with hl'; subst hl'; subst hl0; simp at h0'
    · subst hp; rw [self] at hl; injection hl with hl; subst hl; subst hl0; simp at h0
  · obtain ⟨h1, h2⟩ := hr.glob b d hb
    exact ⟨fun h3 => h1 (hown b h3), h2⟩

theorem To.outNil {E : Env} {n k : Nat} {c : Code} {fm fm1 fm2 : Fm} {T T1 : Tab} {ex : AExit} (kk : IntKind) (et : TypeId) (gg : Nat) (h : To E n k c fm T ex fm1 T1)
    (hf : ∀ t v, look fm2 t = some v → look fm1 t = some v ∨ (look fm1 t = some .nilSlice ∧ v = .slice 1 T1.length gg 0 0 none)) : To E n k c fm T ex fm2 (T1 ++ [some ⟨.ints kk [], gg, true, et⟩]) := by
  intro rr D ν a w hs hrd
  refine wpIn_mono (h rr D ν a w hs hrd) fun e a' w' ⟨ex', fm', T', ν', e1, ⟨e2, e3, e4⟩, ⟨ms, s', mk⟩, n', f'⟩ => ?_
  subst e2 e3 e4
  obtain ⟨l0, g1, g2, g3, g4, g5⟩ := s'.hr.pushEmptyG kk et gg
  refine ⟨ex', fm2, _, _, e1, ⟨rfl, rfl, rfl⟩, ⟨ms, ⟨g3, fun t v hv => ?_, s'.size, s'.defers⟩, mk⟩, n'.trans (g4.b k), f'.sub g5⟩
  rcases hf t v hv with h1 | ⟨h1, rfl⟩
  · exact (s'.fm t v h1).mono g4
  · have := s'.fm t _ h1
    generalize a'.tmps.getD t undef = x at this ⊢
    cases this
    exact .sliceZ none (upd_same _ _ _) g1.symm (.inr ⟨rfl, by rw [g2]; exact Nat.le_refl _⟩)
/-! Clone -/
noncomputable def R70 (zs : List Int) (g off n : Nat) (cp : Option Nat) (ow : Bool) : Res := resG 1 [0,1] (runF (eA []) f70 [] 400 [.slice 1 0 g off n cp] [some ⟨.ints .u8 zs, g, ow, 5⟩] [some false])
theorem R70_ok {zs : List Int} {g off n : Nat} {cp : Option Nat} {ow : Bool} (h : allP [.eqN g g, .leN 1 n, .p (false = false), .leN n 140737488355328, .eqN g g, .leN (off + n) zs.length]) : OkR (R70 zs g off n cp ow) := OkR.dem (fl := [false, false, false, true, true, true, false, false, false, true]) (by kernel_rfl) (by kernel_rfl) (by kernel_rfl) h
theorem R70_val {zs : List Int} {g off n : Nat} {cp : Option Nat} {ow : Bool} : (R70 zs g off n cp ow).val = .slice 1 1 1 0 n none := by kernel_rfl
theorem R70_tab {zs : List Int} {g off n : Nat} {cp : Option Nat} {ow : Bool} : (R70 zs g off n cp ow).tab = [some ⟨.ints .u8 zs, g, ow, 5⟩, some ⟨.ints .u8 ([] ++ List.take n (dropO off zs)), 1, true, 5⟩] := by kernel_rfl
noncomputable def c70a : Code := match bodyOf f70 with | .seq _ (.seq (.seq r _) _) => r | c => c
noncomputable def r70ops : Array Oper := match c70a with | .region _ o _ => o | _ => #[]
noncomputable def r70a : Code := match bodyOf f70 with | .seq r _ => r | c => c
noncomputable def r70b : Code := match bodyOf f70 with | .seq _ (.seq (.seq _ c) _) => c | c => c
noncomputable def r70c : Code := match bodyOf f70 with | .seq _ (.seq (.seq _ _) c) => c | c => c
theorem split70 : bodyOf f70 = .seq r70a (.seq (.seq (.region 1 r70ops false) r70b) r70c) := by kernel_rfl
noncomputable def P70 (zs : List Int) (g off n : Nat) (cp : Option Nat) (ow : Bool) : Out := trim 1 1 [0] (run (eA []) 8 ⟨1, []⟩ 400 r70a [(0, .slice 1 0 g off n cp)] [some ⟨.ints .u8 zs, g, ow, 5⟩] [])
theorem P70_ok {zs : List Int} {g off n : Nat} {cp : Option Nat} {ow : Bool} (h : allP []) : Ok (P70 zs g off n cp ow) := Ok.dem (fl := []) (by kernel_rfl) (by kernel_rfl) (by kernel_rfl) h
theorem P70_ex {zs : List Int} {g off n : Nat} {cp : Option Nat} {ow : Bool} : (P70 zs g off n cp ow).ex = .normal := by kernel_rfl
theorem P70_fm {zs : List Int} {g off n : Nat} {cp : Option Nat} {ow : Bool} : (P70 zs g off n cp ow).fm = [(0, .slice 1 0 g off n cp)] := by kernel_rfl
theorem P70_tab {zs : List Int} {g off n : Nat} {cp : Option Nat} {ow : Bool} : (P70 zs g off n cp ow).tab = [some ⟨.ints .u8 zs, g, ow, 5⟩] := by kernel_rfl
noncomputable def Q70 (zs : List Int) (g off n : Nat) (cp : Option Nat) (ow : Bool) : Out := runOps (eA []) r70ops.toList 8 (r70ops.toList.take 1) [(0, .slice 1 0 g off n cp)] (([some ⟨.ints .u8 zs, g, ow, 5⟩] : Tab) ++ holes (cntA (eA []) (r70ops.toList.take 1))) ([some ⟨.ints .u8 zs, g, ow, 5⟩] : Tab).length []
theorem Q70_ok {zs : List Int} {g off n : Nat} {cp : Option Nat} {ow : Bool} (h : allP []) : Ok (Q70 zs g off n cp ow) := Ok.dem (fl := []) (by kernel_rfl) (by kernel_rfl) (by kernel_rfl) h
theorem Q70_fm {zs : List Int} {g off n : Nat} {cp : Option Nat} {ow : Bool} : (Q70 zs g off n cp ow).fm = [(3, .slice 1 0 g off n cp), (0, .slice 1 0 g off n cp)] := by kernel_rfl
theorem Q70_tab {zs : List Int} {g off n : Nat} {cp : Option Nat} {ow : Bool} : (Q70 zs g off n cp ow).tab = [some ⟨.ints .u8 zs, g, ow, 5⟩] := by kernel_rfl
noncomputable def U70 (zs : List Int) (g off n : Nat) (cp : Option Nat) (ow : Bool) : Out := trim 1 1 [2] (run (eA []) 8 ⟨1, []⟩ 400 r70b [(0, .slice 1 0 g off n cp), (4, .bool true)] [some ⟨.ints .u8 zs, g, ow, 5⟩] [])
theorem U70_ok {zs : List Int} {g off n : Nat} {cp : Option Nat} {ow : Bool} (h : allP []) : Ok (U70 zs g off n cp ow) := Ok.dem (fl := []) (by kernel_rfl) (by kernel_rfl) (by kernel_rfl) h
theorem U70_ex {zs : List Int} {g off n : Nat} {cp : Option Nat} {ow : Bool} : (U70 zs g off n cp ow).ex = .ret := by kernel_rfl
theorem U70_fm {zs : List Int} {g off n : Nat} {cp : Option Nat} {ow : Bool} : (U70 zs g off n cp ow).fm = [(2, .nilSlice)] := by kernel_rfl
theorem U70_tab {zs : List Int} {g off n : Nat} {cp : Option Nat} {ow : Bool} : (U70 zs g off n cp ow).tab = [some ⟨.ints .u8 zs, g, ow, 5⟩] := by kernel_rfl
noncomputable def W70 (zs : List Int) (g off n : Nat) (cp : Option Nat) (ow : Bool) : Out := trim 1 1 [0] (run (eA []) 8 ⟨1, []⟩ 400 r70b [(0, .slice 1 0 g off n cp), (4, .bool false)] [some ⟨.ints .u8 zs, g, ow, 5⟩] [])
theorem W70_ok {zs : List Int} {g off n : Nat} {cp : Option Nat} {ow : Bool} (h : allP []) : Ok (W70 zs g off n cp ow) := Ok.dem (fl := []) (by kernel_rfl) (by kernel_rfl) (by kernel_rfl) h
theorem W70_ex {zs : List Int} {g off n : Nat} {cp : Option Nat} {ow : Bool} : (W70 zs g off n cp ow).ex = .normal := by kernel_rfl
theorem W70_fm {zs : List Int} {g off n : Nat} {cp : Option Nat} {ow : Bool} : (W70 zs g off n cp ow).fm = [(0, .slice 1 0 g off n cp)] := by kernel_rfl
theorem W70_tab {zs : List Int} {g off n : Nat} {cp : Option Nat} {ow : Bool} : (W70 zs g off n cp ow).tab = [some ⟨.ints .u8 zs, g, ow, 5⟩] := by kernel_rfl
noncomputable def Y70 (zs : List Int) (g off n : Nat) (cp : Option Nat) (ow : Bool) : Out := trimG 1 [0,1] [2] (run (eA []) 8 ⟨1, []⟩ 400 r70c [(0, .slice 1 0 g off n cp)] [some ⟨.ints .u8 zs, g, ow, 5⟩] [])
theorem Y70_ok {zs : List Int} {g off n : Nat} {cp : Option Nat} {ow : Bool} (h : allP [.leN n 140737488355328, .eqN g g, .leN (off + n) zs.length]) : Ok (Y70 zs g off n cp ow) := Ok.dem (fl := [true, true, true, false, false, false, true]) (by kernel_rfl) (by kernel_rfl) (by kernel_rfl) h
theorem Y70_ex {zs : List Int} {g off n : Nat} {cp : Option Nat} {ow : Bool} : (Y70 zs g off n cp ow).ex = .ret := by kernel_rfl
theorem Y70_fm {zs : List Int} {g off n : Nat} {cp : Option Nat} {ow : Bool} : (Y70 zs g off n cp ow).fm = [(2, .slice 1 1 1 0 n none)] := by kernel_rfl
theorem Y70_tab {zs : List Int} {g off n : Nat} {cp : Option Nat} {ow : Bool} : (Y70 zs g off n cp ow).tab = [some ⟨.ints .u8 zs, g, ow, 5⟩, some ⟨.ints .u8 ([] ++ List.take n (dropO off zs)), 1, true, 5⟩] := by kernel_rfl
theorem eq70 : ∃ oy : Oper, r70ops.toList = r70ops.toList.take 1 ++ [oy] ∧ oy.op = .binOp .eql 25 (.tmp 3) (.const (.slice none 0 0)) 25 ∧ oy.guard = none ∧ oy.dst = some 4 := ⟨r70ops.toList.getD 1 default, by kernel_rfl, by kernel_rfl, by kernel_rfl, by kernel_rfl⟩
noncomputable def sm70c (args : List AVal) (T : Tab) (zs : List Int) (g : Nat) (off : Nat) (n : Nat) (cp : Option Nat) (ow : Bool) : Res := ⟨[.tab T [some ⟨.ints .u8 zs, g, ow, 5⟩], .val (.tuple args) (.tuple [.slice 1 0 g off n cp]), .leN (off + n) zs.length, .leN n 140737488355000], .slice 1 1 1 0 n none, [some ⟨.ints .u8 zs, g, ow, 5⟩, some ⟨.ints .u8 (subLaw zs off n), 1, true, 5⟩]⟩
theorem sm70c_ok {args : List AVal} {T : Tab} {zs : List Int} {g : Nat} {off : Nat} {n : Nat} {cp : Option Nat} {ow : Bool} (h : allP (sm70c args T zs g off n cp ow).cs) : Small prog (fun _ => none) 70 args T (sm70c args T zs g off n cp ow).val (sm70c args T zs g off n cp ow).tab := by
  obtain ⟨hT, hv, h1, h2, _⟩ := h
  simp only [Con.h] at hT hv h1 h2
  injection hv with hv
  subst hT hv
  by_cases hn : 1 ≤ n
  · refine small_ofG (R := R70 zs g off n cp ow) (keep := [0,1]) eA0_ok hmA (f := 70) (fn := f70) (by kernel_rfl) (by kernel_rfl) FnOrc.nil rfl (R70_ok ?_) R70_val (by rw [R70_tab]; simp only [dropO_eq, List.nil_append]; rfl)
    simp only [allP, Con.h, hn, h1, eq_self, true_and, and_true]
    omega
  · obtain rfl : n = 0 := by omega
    have hs0 : subLaw zs off 0 = [] := by unfold subLaw; exact List.take_zero
    obtain ⟨oy, q1, q2, q3, q4⟩ := eq70
    refine small_of_awp eA0_ok (f := 70) (fn := f70) (c := bodyOf f70) (by kernel_rfl) (by kernel_rfl) (by kernel_rfl) ?_
    rw [split70]
    show AWp (eA []) 8 1 _ [(0, .slice 1 0 g off 0 cp)] _ _
    refine AWp.seq (AWp.mono (To.of (o := P70 zs g off 0 cp ow) eA0_ok hmA (Nat.le_refl 1) OrcOk.nil rfl (P70_ok trivial) P70_ex P70_fm P70_tab) fun ex fm T hP => ?_)
    obtain ⟨rfl, rfl, rfl⟩ := hP
    refine AWp.seq (AWp.seq (AWp.eqNil eA0_ok q1 (ds1 := []) (o1 := Q70 zs g off 0 cp ow) rfl (Q70_ok trivial) q2 q3 q4 (by decide) (e := 5) (by kernel_rfl) (sz := 1) (p := 0) (g := g) (off := off) (len := 0) (cap := cp) (o := ⟨.ints .u8 zs, g, ow, 5⟩) (by rw [Q70_fm]; rfl) (by kernel_rfl) (by rw [Q70_tab]; rfl) rfl (fun b => ?_)))
    rw [Q70_fm, Q70_tab]
    cases b with
    | true =>
      refine AWp.mono (To.outNil (fm2 := [(2, .slice 1 1 1 0 0 none)]) .u8 5 1 (AWp.fmSub (f := [(0, .slice 1 0 g off 0 cp), (4, .bool true)]) ⟨rfl, rfl, trivial⟩ (To.of (o := U70 zs g off 0 cp ow) eA0_ok hmA (Nat.le_refl 1) OrcOk.nil rfl (U70_ok trivial) U70_ex U70_fm U70_tab)) (fun t v hv => ?_)) fun ex fm T hP => ?_
      · simp only [look] at hv
        split at hv
        · rename_i e
          have := Nat.eq_of_beq_eq_true e
          subst this
          injection hv with hv; subst hv
          exact .inr ⟨rfl, rfl⟩
        · cases hv
      · obtain ⟨rfl, rfl, rfl⟩ := hP
        refine ⟨.inr rfl, ?_, _, _, rfl, trivial, rfl⟩
        show _ = [_, some (⟨.ints .u8 (subLaw zs off 0), 1, true, 5⟩ : AObj)]
        rw [hs0]; rfl
    | false =>
      refine AWp.mono (AWp.fmSub (f := [(0, .slice 1 0 g off 0 cp), (4, .bool false)]) ⟨rfl, rfl, trivial⟩ (To.of (o := W70 zs g off 0 cp ow) eA0_ok hmA (Nat.le_refl 1) OrcOk.nil rfl (W70_ok trivial) W70_ex W70_fm W70_tab)) fun ex fm T hP => ?_
      obtain ⟨rfl, rfl, rfl⟩ := hP
      refine AWp.mono (To.ofG (o := Y70 zs g off 0 cp ow) eA0_ok hmA (Nat.le_refl 1) OrcOk.nil rfl (Y70_ok (by simp only [allP, Con.h, h1, eq_self, true_and, and_true]; omega)) Y70_ex Y70_fm Y70_tab) fun ex fm T hP => ?_
      obtain ⟨rfl, rfl, rfl⟩ := hP
      refine ⟨.inr rfl, ?_, _, _, rfl, trivial, rfl⟩
      show [_, some (⟨.ints .u8 ([] ++ List.take 0 (dropO off zs)), 1, true, 5⟩ : AObj)] = [_, some (⟨.ints .u8 (subLaw zs off 0), 1, true, 5⟩ : AObj)]
      rw [hs0, List.take_zero]; rfl
noncomputable def sm70 : Summary := fun args T => sm70c args T (xsAt T 0) (gAt T 0) (offOf (vAt args 0)) (lenOf (vAt args 0)) (capOf (vAt args 0)) (owAt T 0)
theorem sm70_ok : SmOk prog (fun _ => none) 70 sm70 := fun args T h => sm70c_ok h
noncomputable def S70 : Summary := callR sm70 []
theorem S70_ok : SumOk prog (fun _ => none) 70 S70 := callR_ok sm70_ok []
end Go.Abs
