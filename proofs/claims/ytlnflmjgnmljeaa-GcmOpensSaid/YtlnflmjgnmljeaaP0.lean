/- What functions of the given program come to, by the abstract machine: texts of a proof. -/
import Derived.Test.YtlnflmjgnmljeaaAbs2
import Derived.Test.YtlnflmjgnmljeaaProg
import Derived.KernelRfl
set_option linter.unusedVariables false
set_option linter.unusedSimpArgs false
namespace Go.Abs
/-! ### products of blocks, as numbers below 2^128 -/
def dN (x : Nat) : Nat := (x >>> 1) ^^^ (if x.testBit 0 then 225 <<< 120 else 0)
def apN (a : Nat) : Nat → Nat
  | 0 => a
  | i + 1 => dN (apN a i)
def accN (a b : Nat) : Nat → Nat
  | 0 => 0
  | i + 1 => accN a b i ^^^ (if b.testBit (127 - i) then apN a i else 0)
def mulN (a b : Nat) : Nat := accN a b 128
theorem dN_lt {x : Nat} (h : x < 2 ^ 128) : dN x < 2 ^ 128 := by
  unfold dN
  refine Nat.xor_lt_two_pow ?_ ?_
  · rw [Nat.shiftRight_eq_div_pow]; omega
  · split <;> decide
theorem apN_lt {a : Nat} (h : a < 2 ^ 128) : ∀ i, apN a i < 2 ^ 128
  | 0 => h
  | i + 1 => dN_lt (apN_lt h i)
theorem accN_lt {a : Nat} (b : Nat) (h : a < 2 ^ 128) : ∀ i, accN a b i < 2 ^ 128
  | 0 => Nat.two_pow_pos 128
  | i + 1 => by
    refine Nat.xor_lt_two_pow (accN_lt b h i) ?_
    split
    · exact apN_lt h i
    · decide
theorem mulN_lt {a : Nat} (b : Nat) (h : a < 2 ^ 128) : mulN a b < 2 ^ 128 := accN_lt b h 128
end Go.Abs

set_option linter.unusedVariables false
namespace Go.Abs
def tysA : List (Nat × Ty) := [
(1, ⟨.func, 1, 8, .nilFunc⟩),
(2, ⟨(.int .i64), 1, 8, (.int .i64 0)⟩),
(3, ⟨(.int .i64), 1, 8, (.int .i64 0)⟩),
(4, ⟨.bool, 1, 1, (.bool false)⟩),
(5, ⟨(.int .u8), 1, 1, (.int .u8 0)⟩),
(6, ⟨(.int .u8), 1, 1, (.int .u8 0)⟩),
(7, ⟨(.struct [(0, 2), (1, 3), (2, 4), (3, 6)]), 4, 24, (.agg [(.int .i64 0), (.int .i64 0), (.bool false), (.int .u8 0)])⟩),
(8, ⟨(.struct [(0, 2), (1, 3), (2, 4), (3, 6)]), 4, 24, (.agg [(.int .i64 0), (.int .i64 0), (.bool false), (.int .u8 0)])⟩),
(9, ⟨.str, 1, 16, (.str [])⟩),
(10, ⟨.str, 1, 16, (.str [])⟩),
(11, ⟨.str, 1, 16, (.str [])⟩),
(12, ⟨(.int .u64), 1, 8, (.int .u64 0)⟩),
(13, ⟨(.struct [(0, 9), (1, 12)]), 2, 24, (.agg [(.str []), (.int .u64 0)])⟩),
(14, ⟨(.struct [(0, 9), (1, 12)]), 2, 24, (.agg [(.str []), (.int .u64 0)])⟩),
(15, ⟨(.ptr 91), 1, 8, .nilPtr⟩),
(16, ⟨(.ptr 94), 1, 8, .nilPtr⟩),
(17, ⟨(.ptr 104), 1, 8, .nilPtr⟩),
(18, ⟨(.struct [(0, 17)]), 1, 8, (.agg [.nilPtr])⟩),
(19, ⟨(.struct [(0, 17)]), 1, 8, (.agg [.nilPtr])⟩),
(20, ⟨.iface, 1, 16, .nilIface⟩),
(21, ⟨(.int .i32), 1, 4, (.int .i32 0)⟩),
(22, ⟨.func, 1, 8, .nilFunc⟩),
(23, ⟨.func, 1, 8, .nilFunc⟩),
(24, ⟨.func, 1, 8, .nilFunc⟩),
(25, ⟨(.slice 5), 1, 24, .nilSlice⟩),
(26, ⟨.func, 1, 8, .nilFunc⟩),
(27, ⟨(.int .i64), 1, 8, (.int .i64 0)⟩),
(29, ⟨.func, 1, 8, .nilFunc⟩),
(31, ⟨.func, 1, 8, .nilFunc⟩),
(32, ⟨.func, 1, 8, .nilFunc⟩),
(33, ⟨.func, 1, 8, .nilFunc⟩),
(34, ⟨.func, 1, 8, .nilFunc⟩),
(35, ⟨.func, 1, 8, .nilFunc⟩),
(36, ⟨.func, 1, 8, .nilFunc⟩),
(37, ⟨.func, 1, 8, .nilFunc⟩),
(38, ⟨(.struct [(0, 25), (1, 25), (2, 25), (3, 25)]), 4, 96, (.agg [.nilSlice, .nilSlice, .nilSlice, .nilSlice])⟩),
(39, ⟨(.struct [(0, 25), (1, 25), (2, 25), (3, 25)]), 4, 96, (.agg [.nilSlice, .nilSlice, .nilSlice, .nilSlice])⟩),
(40, ⟨.func, 1, 8, .nilFunc⟩),
(41, ⟨.func, 1, 8, .nilFunc⟩),
(42, ⟨.func, 1, 8, .nilFunc⟩),
(43, ⟨.func, 1, 8, .nilFunc⟩),
(44, ⟨.func, 1, 8, .nilFunc⟩),
(45, ⟨.func, 1, 8, .nilFunc⟩),
(46, ⟨.func, 1, 8, .nilFunc⟩),
(47, ⟨(.array 16 5), 16, 16, (.ints .u8 [0, 0, 0, 0, 0, 0, 0, 0, 0, 0, 0, 0, 0, 0, 0, 0])⟩),
(48, ⟨(.array 16 5), 16, 16, (.ints .u8 [0, 0, 0, 0, 0, 0, 0, 0, 0, 0, 0, 0, 0, 0, 0, 0])⟩),
(49, ⟨(.array 11 48), 176, 176, (.ints .u8 [0, 0, 0, 0, 0, 0, 0, 0, 0, 0, 0, 0, 0, 0, 0, 0, 0, 0, 0, 0, 0, 0, 0, 0, 0, 0, 0, 0, 0, 0, 0, 0, 0, 0, 0, 0, 0, 0, 0, 0, 0, 0, 0, 0, 0, 0, 0, 0, 0, 0, 0, 0, 0, 0, 0, 0, 0, 0, 0, 0, 0, 0, 0, 0, 0, 0, 0, 0, 0, 0, 0, 0, 0, 0, 0, 0, 0, 0, 0, 0, 0, 0, 0, 0, 0, 0, 0, 0, 0, 0, 0, 0, 0, 0, 0, 0, 0, 0, 0, 0, 0, 0, 0, 0, 0, 0, 0, 0, 0, 0, 0, 0, 0, 0, 0, 0, 0, 0, 0, 0, 0, 0, 0, 0, 0, 0, 0, 0, 0, 0, 0, 0, 0, 0, 0, 0, 0, 0, 0, 0, 0, 0, 0, 0, 0, 0, 0, 0, 0, 0, 0, 0, 0, 0, 0, 0, 0, 0, 0, 0, 0, 0, 0, 0, 0, 0, 0, 0, 0, 0, 0, 0, 0, 0, 0, 0])⟩),
(50, ⟨(.ptr 72), 1, 8, .nilPtr⟩),
(51, ⟨.func, 1, 8, .nilFunc⟩),
(52, ⟨.func, 1, 8, .nilFunc⟩),
(53, ⟨.func, 1, 8, .nilFunc⟩),
(54, ⟨.func, 1, 8, .nilFunc⟩),
(55, ⟨.func, 1, 8, .nilFunc⟩),
(56, ⟨.func, 1, 8, .nilFunc⟩),
(57, ⟨(.slice 55), 1, 24, .nilSlice⟩),
(58, ⟨.func, 1, 8, .nilFunc⟩),
(59, ⟨(.struct [(0, 25), (1, 25)]), 2, 48, (.agg [.nilSlice, .nilSlice])⟩),
(60, ⟨(.struct [(0, 25), (1, 25)]), 2, 48, (.agg [.nilSlice, .nilSlice])⟩),
(61, ⟨.func, 1, 8, .nilFunc⟩),
(62, ⟨.func, 1, 8, .nilFunc⟩),
(63, ⟨(.int .u64), 1, 8, (.int .u64 0)⟩),
(64, ⟨(.array 2 63), 2, 16, (.ints .u64 [0, 0])⟩),
(65, ⟨(.array 2 63), 2, 16, (.ints .u64 [0, 0])⟩),
(66, ⟨.func, 1, 8, .nilFunc⟩),
(67, ⟨.func, 1, 8, .nilFunc⟩),
(68, ⟨.func, 1, 8, .nilFunc⟩),
(69, ⟨(.int .u64), 1, 8, (.int .u64 0)⟩),
(70, ⟨(.array 256 5), 256, 256, (.ints .u8 [0, 0, 0, 0, 0, 0, 0, 0, 0, 0, 0, 0, 0, 0, 0, 0, 0, 0, 0, 0, 0, 0, 0, 0, 0, 0, 0, 0, 0, 0, 0, 0, 0, 0, 0, 0, 0, 0, 0, 0, 0, 0, 0, 0, 0, 0, 0, 0, 0, 0, 0, 0, 0, 0, 0, 0, 0, 0, 0, 0, 0, 0, 0, 0, 0, 0, 0, 0, 0, 0, 0, 0, 0, 0, 0, 0, 0, 0, 0, 0, 0, 0, 0, 0, 0, 0, 0, 0, 0, 0, 0, 0, 0, 0, 0, 0, 0, 0, 0, 0, 0, 0, 0, 0, 0, 0, 0, 0, 0, 0, 0, 0, 0, 0, 0, 0, 0, 0, 0, 0, 0, 0, 0, 0, 0, 0, 0, 0, 0, 0, 0, 0, 0, 0, 0, 0, 0, 0, 0, 0, 0, 0, 0, 0, 0, 0, 0, 0, 0, 0, 0, 0, 0, 0, 0, 0, 0, 0, 0, 0, 0, 0, 0, 0, 0, 0, 0, 0, 0, 0, 0, 0, 0, 0, 0, 0, 0, 0, 0, 0, 0, 0, 0, 0, 0, 0, 0, 0, 0, 0, 0, 0, 0, 0, 0, 0, 0, 0, 0, 0, 0, 0, 0, 0, 0, 0, 0, 0, 0, 0, 0, 0, 0, 0, 0, 0, 0, 0, 0, 0, 0, 0, 0, 0, 0, 0, 0, 0, 0, 0, 0, 0, 0, 0, 0, 0, 0, 0, 0, 0, 0, 0, 0, 0, 0, 0, 0, 0, 0, 0, 0, 0, 0, 0, 0, 0])⟩),
(71, ⟨(.struct [(0, 70), (256, 70)]), 512, 512, (.ints .u8 [0, 0, 0, 0, 0, 0, 0, 0, 0, 0, 0, 0, 0, 0, 0, 0, 0, 0, 0, 0, 0, 0, 0, 0, 0, 0, 0, 0, 0, 0, 0, 0, 0, 0, 0, 0, 0, 0, 0, 0, 0, 0, 0, 0, 0, 0, 0, 0, 0, 0, 0, 0, 0, 0, 0, 0, 0, 0, 0, 0, 0, 0, 0, 0, 0, 0, 0, 0, 0, 0, 0, 0, 0, 0, 0, 0, 0, 0, 0, 0, 0, 0, 0, 0, 0, 0, 0, 0, 0, 0, 0, 0, 0, 0, 0, 0, 0, 0, 0, 0, 0, 0, 0, 0, 0, 0, 0, 0, 0, 0, 0, 0, 0, 0, 0, 0, 0, 0, 0, 0, 0, 0, 0, 0, 0, 0, 0, 0, 0, 0, 0, 0, 0, 0, 0, 0, 0, 0, 0, 0, 0, 0, 0, 0, 0, 0, 0, 0, 0, 0, 0, 0, 0, 0, 0, 0, 0, 0, 0, 0, 0, 0, 0, 0, 0, 0, 0, 0, 0, 0, 0, 0, 0, 0, 0, 0, 0, 0, 0, 0, 0, 0, 0, 0, 0, 0, 0, 0, 0, 0, 0, 0, 0, 0, 0, 0, 0, 0, 0, 0, 0, 0, 0, 0, 0, 0, 0, 0, 0, 0, 0, 0, 0, 0, 0, 0, 0, 0, 0, 0, 0, 0, 0, 0, 0, 0, 0, 0, 0, 0, 0, 0, 0, 0, 0, 0, 0, 0, 0, 0, 0, 0, 0, 0, 0, 0, 0, 0, 0, 0, 0, 0, 0, 0, 0, 0, 0, 0, 0, 0, 0, 0, 0, 0, 0, 0, 0, 0, 0, 0, 0, 0, 0, 0, 0, 0, 0, 0, 0, 0, 0, 0, 0, 0, 0, 0, 0, 0, 0, 0, 0, 0, 0, 0, 0, 0, 0, 0, 0, 0, 0, 0, 0, 0, 0, 0, 0, 0, 0, 0, 0, 0, 0, 0, 0, 0, 0, 0, 0, 0, 0, 0, 0, 0, 0, 0, 0, 0, 0, 0, 0, 0, 0, 0, 0, 0, 0, 0, 0, 0, 0, 0, 0, 0, 0, 0, 0, 0, 0, 0, 0, 0, 0, 0, 0, 0, 0, 0, 0, 0, 0, 0, 0, 0, 0, 0, 0, 0, 0, 0, 0, 0, 0, 0, 0, 0, 0, 0, 0, 0, 0, 0, 0, 0, 0, 0, 0, 0, 0, 0, 0, 0, 0, 0, 0, 0, 0, 0, 0, 0, 0, 0, 0, 0, 0, 0, 0, 0, 0, 0, 0, 0, 0, 0, 0, 0, 0, 0, 0, 0, 0, 0, 0, 0, 0, 0, 0, 0, 0, 0, 0, 0, 0, 0, 0, 0, 0, 0, 0, 0, 0, 0, 0, 0, 0, 0, 0, 0, 0, 0, 0, 0, 0, 0, 0, 0, 0, 0, 0, 0, 0, 0, 0, 0, 0, 0, 0, 0, 0, 0, 0, 0, 0, 0, 0, 0, 0, 0, 0, 0, 0, 0, 0, 0, 0, 0, 0, 0, 0, 0, 0, 0, 0, 0, 0, 0, 0, 0, 0, 0, 0, 0, 0, 0, 0, 0, 0, 0, 0, 0, 0, 0])⟩),
(72, ⟨(.struct [(0, 70), (256, 70)]), 512, 512, (.ints .u8 [0, 0, 0, 0, 0, 0, 0, 0, 0, 0, 0, 0, 0, 0, 0, 0, 0, 0, 0, 0, 0, 0, 0, 0, 0, 0, 0, 0, 0, 0, 0, 0, 0, 0, 0, 0, 0, 0, 0, 0, 0, 0, 0, 0, 0, 0, 0, 0, 0, 0, 0, 0, 0, 0, 0, 0, 0, 0, 0, 0, 0, 0, 0, 0, 0, 0, 0, 0, 0, 0, 0, 0, 0, 0, 0, 0, 0, 0, 0, 0, 0, 0, 0, 0, 0, 0, 0, 0, 0, 0, 0, 0, 0, 0, 0, 0, 0, 0, 0, 0, 0, 0, 0, 0, 0, 0, 0, 0, 0, 0, 0, 0, 0, 0, 0, 0, 0, 0, 0, 0, 0, 0, 0, 0, 0, 0, 0, 0, 0, 0, 0, 0, 0, 0, 0, 0, 0, 0, 0, 0, 0, 0, 0, 0, 0, 0, 0, 0, 0, 0, 0, 0, 0, 0, 0, 0, 0, 0, 0, 0, 0, 0, 0, 0, 0, 0, 0, 0, 0, 0, 0, 0, 0, 0, 0, 0, 0, 0, 0, 0, 0, 0, 0, 0, 0, 0, 0, 0, 0, 0, 0, 0, 0, 0, 0, 0, 0, 0, 0, 0, 0, 0, 0, 0, 0, 0, 0, 0, 0, 0, 0, 0, 0, 0, 0, 0, 0, 0, 0, 0, 0, 0, 0, 0, 0, 0, 0, 0, 0, 0, 0, 0, 0, 0, 0, 0, 0, 0, 0, 0, 0, 0, 0, 0, 0, 0, 0, 0, 0, 0, 0, 0, 0, 0, 0, 0, 0, 0, 0, 0, 0, 0, 0, 0, 0, 0, 0, 0, 0, 0, 0, 0, 0, 0, 0, 0, 0, 0, 0, 0, 0, 0, 0, 0, 0, 0, 0, 0, 0, 0, 0, 0, 0, 0, 0, 0, 0, 0, 0, 0, 0, 0, 0, 0, 0, 0, 0, 0, 0, 0, 0, 0, 0, 0, 0, 0, 0, 0, 0, 0, 0, 0, 0, 0, 0, 0, 0, 0, 0, 0, 0, 0, 0, 0, 0, 0, 0, 0, 0, 0, 0, 0, 0, 0, 0, 0, 0, 0, 0, 0, 0, 0, 0, 0, 0, 0, 0, 0, 0, 0, 0, 0, 0, 0, 0, 0, 0, 0, 0, 0, 0, 0, 0, 0, 0, 0, 0, 0, 0, 0, 0, 0, 0, 0, 0, 0, 0, 0, 0, 0, 0, 0, 0, 0, 0, 0, 0, 0, 0, 0, 0, 0, 0, 0, 0, 0, 0, 0, 0, 0, 0, 0, 0, 0, 0, 0, 0, 0, 0, 0, 0, 0, 0, 0, 0, 0, 0, 0, 0, 0, 0, 0, 0, 0, 0, 0, 0, 0, 0, 0, 0, 0, 0, 0, 0, 0, 0, 0, 0, 0, 0, 0, 0, 0, 0, 0, 0, 0, 0, 0, 0, 0, 0, 0, 0, 0, 0, 0, 0, 0, 0, 0, 0, 0, 0, 0, 0, 0, 0, 0, 0, 0, 0, 0, 0, 0, 0, 0, 0, 0, 0, 0, 0, 0, 0, 0, 0, 0, 0, 0, 0, 0, 0, 0, 0, 0, 0, 0, 0, 0, 0, 0])⟩),
(73, ⟨(.ptr 48), 1, 8, .nilPtr⟩),
(74, ⟨(.array 4 5), 4, 4, (.ints .u8 [0, 0, 0, 0])⟩),
(75, ⟨.func, 1, 8, .nilFunc⟩),
(76, ⟨.func, 1, 8, .nilFunc⟩),
(77, ⟨.func, 1, 8, .nilFunc⟩),
(78, ⟨.func, 1, 8, .nilFunc⟩),
(79, ⟨.func, 1, 8, .nilFunc⟩),
(80, ⟨.func, 1, 8, .nilFunc⟩),
(81, ⟨(.slice 25), 1, 24, .nilSlice⟩),
(82, ⟨.func, 1, 8, .nilFunc⟩),
(83, ⟨.func, 1, 8, .nilFunc⟩),
(84, ⟨.func, 1, 8, .nilFunc⟩),
(85, ⟨.func, 1, 8, .nilFunc⟩),
(86, ⟨.func, 1, 8, .nilFunc⟩),
(87, ⟨.func, 1, 8, .nilFunc⟩),
(88, ⟨.func, 1, 8, .nilFunc⟩),
(89, ⟨.func, 1, 8, .nilFunc⟩),
(90, ⟨(.struct [(0, 17), (1, 17), (2, 17), (3, 9)]), 4, 40, (.agg [.nilPtr, .nilPtr, .nilPtr, (.str [])])⟩),
(91, ⟨(.struct [(0, 17), (1, 17), (2, 17), (3, 9)]), 4, 40, (.agg [.nilPtr, .nilPtr, .nilPtr, (.str [])])⟩),
(92, ⟨(.array 0 16), 0, 0, (.agg [])⟩),
(93, ⟨(.struct [(0, 92)]), 0, 0, (.agg [])⟩),
(94, ⟨(.struct [(0, 92)]), 0, 0, (.agg [])⟩),
(95, ⟨.func, 1, 8, .nilFunc⟩),
(96, ⟨(.int .u32), 1, 4, (.int .u32 0)⟩),
(97, ⟨(.int .u8), 1, 1, (.int .u8 0)⟩),
(98, ⟨(.int .u8), 1, 1, (.int .u8 0)⟩),
(99, ⟨.func, 1, 8, .nilFunc⟩),
(100, ⟨(.ptr 5), 1, 8, .nilPtr⟩),
(101, ⟨(.int .i32), 1, 4, (.int .i32 0)⟩),
(102, ⟨(.int .i32), 1, 4, (.int .i32 0)⟩),
(103, ⟨(.struct [(0, 12), (1, 12), (2, 96), (3, 97), (4, 5), (5, 5), (6, 98), (7, 99), (8, 100), (9, 101), (10, 102)]), 11, 48, (.agg [(.int .u64 0), (.int .u64 0), (.int .u32 0), (.int .u8 0), (.int .u8 0), (.int .u8 0), (.int .u8 0), .nilFunc, .nilPtr, (.int .i32 0), (.int .i32 0)])⟩),
(104, ⟨(.struct [(0, 12), (1, 12), (2, 96), (3, 97), (4, 5), (5, 5), (6, 98), (7, 99), (8, 100), (9, 101), (10, 102)]), 11, 48, (.agg [(.int .u64 0), (.int .u64 0), (.int .u32 0), (.int .u8 0), (.int .u8 0), (.int .u8 0), (.int .u8 0), .nilFunc, .nilPtr, (.int .i32 0), (.int .i32 0)])⟩),
(105, ⟨.other, 1, 8, .nilPtr⟩)]
theorem tysA_ok : TysOk Go.Proofs.Try.prog tysA := by
  refine ⟨?_, ?_, ?_, ?_, ?_, ?_, ?_, ?_, ?_, ?_, ?_, ?_, ?_, ?_, ?_, ?_, ?_, ?_, ?_, ?_, ?_, ?_, ?_, ?_, ?_, ?_, ?_, ?_, ?_, ?_, ?_, ?_, ?_, ?_, ?_, ?_, ?_, ?_, ?_, ?_, ?_, ?_, ?_, ?_, ?_, ?_, ?_, ?_, ?_, ?_, ?_, ?_, ?_, ?_, ?_, ?_, ?_, ?_, ?_, ?_, ?_, ?_, ?_, ?_, ?_, ?_, ?_, ?_, ?_, ?_, ?_, ?_, ?_, ?_, ?_, ?_, ?_, ?_, ?_, ?_, ?_, ?_, ?_, ?_, ?_, ?_, ?_, ?_, ?_, ?_, ?_, ?_, ?_, ?_, ?_, ?_, ?_, ?_, ?_, ?_, ?_, ?_, ?_, trivial⟩ <;> kernel_rfl
end Go.Abs

set_option linter.unusedVariables false
namespace Go.Abs
noncomputable def eA (fns : List (Nat × Summary)) : Env := envOf Go.Proofs.Try.prog tysA fns (fun _ => none)
theorem hmA : Go.Proofs.Try.prog.follows .mixedOrders = true := by kernel_rfl
theorem eA0_ok : EnvOk (eA []) := envOf_ok tysA_ok trivial
end Go.Abs

set_option linter.unusedVariables false
set_option linter.unusedSimpArgs false
namespace Go.Abs
open Go.Proofs.Try
/-! ### Times, of the document -/
noncomputable def R67tt (a b p x i : Int) : Out := trim 0 0 [0,1,5,6,7] (run (eA []) 31 ⟨0, []⟩ 100 (roundOf 0 f67) [(0, .int .u8 a), (1, .int .u8 b),(5,.int .i64 p),(6,.int .i64 x),(7,.int .i64 i)] [] [some true, some true, some true])
theorem R67tt_ok {a b p x i : Int} (h : allP [.p (decide (i < 8) = true), .rng 0 i 18446744073709551615, .rng 0 i 8, .nn .u8 (b / 2 ^ i.toNat), .p ((iand (b / 2 ^ i.toNat) 1 == 1) = true), .nn .i64 p, .nn .i64 x, .rng (-9223372036854775808) (x * 2) 9223372036854775807, .p (decide (255 < x * 2) = true), .nn .i64 (x * 2), .rng (-9223372036854775808) (i + 1) 9223372036854775807]) : Ok (R67tt a b p x
 i) := Ok.dem (fl := bitsF 13 2064) (by kernel_rfl) (by kernel_rfl) (by kernel_rfl) h
theorem R67tt_ex {a b p x i : Int} : (R67tt a b p x i).ex = .normal := by kernel_rfl
theorem R67tt_fm {a b p x i : Int} : (R67tt a b p x i).fm = [(0, .int .u8 a), (1, .int .u8 b), (5, .int .i64 (ixor p x)), (6, .int .i64 (ixor (x * 2) 283)), (7, .int .i64 (i + 1))] := by kernel_rfl
theorem R67tt_tab {a b p x i : Int} : (R67tt a b p x i).tab = [] := by kernel_rfl
noncomputable def R67tf (a b p x i : Int) : Out := trim 0 0 [0,1,5,6,7] (run (eA []) 31 ⟨0, []⟩ 100 (roundOf 0 f67) [(0, .int .u8 a), (1, .int .u8 b),(5,.int .i64 p),(6,.int .i64 x),(7,.int .i64 i)] [] [some true, some true, some false])
theorem R67tf_ok {a b p x i : Int} (h : allP [.p (decide (i < 8) = true), .rng 0 i 18446744073709551615, .rng 0 i 8, .nn .u8 (b / 2 ^ i.toNat), .p ((iand (b / 2 ^ i.toNat) 1 == 1) = true), .nn .i64 p, .nn .i64 x, .rng (-9223372036854775808) (x * 2) 9223372036854775807, .p (decide (255 < x * 2) = false), .rng (-9223372036854775808) (i + 1) 9223372036854775807]) : Ok (R67tf a b p x i) := Ok.dem (fl
 := [false, false, false, false, true, false, false, false, false, false, false]) (by kernel_rfl) (by kernel_rfl) (by kernel_rfl) h
theorem R67tf_ex {a b p x i : Int} : (R67tf a b p x i).ex = .normal := by kernel_rfl
theorem R67tf_fm {a b p x i : Int} : (R67tf a b p x i).fm = [(0, .int .u8 a), (1, .int .u8 b), (5, .int .i64 (ixor p x)), (6, .int .i64 (x * 2)), (7, .int .i64 (i + 1))] := by kernel_rfl
theorem R67tf_tab {a b p x i : Int} : (R67tf a b p x i).tab = [] := by kernel_rfl
noncomputable def R67ft (a b p x i : Int) : Out := trim 0 0 [0,1,5,6,7] (run (eA []) 31 ⟨0, []⟩ 100 (roundOf 0 f67) [(0, .int .u8 a), (1, .int .u8 b),(5,.int .i64 p),(6,.int .i64 x),(7,.int .i64 i)] [] [some true, some false, some true])
theorem R67ft_ok {a b p x i : Int} (h : allP [.p (decide (i < 8) = true), .rng 0 i 18446744073709551615, .rng 0 i 8, .nn .u8 (b / 2 ^ i.toNat), .p ((iand (b / 2 ^ i.toNat) 1 == 1) = false), .rng (-9223372036854775808) (x * 2) 9223372036854775807, .p (decide (255 < x * 2) = true), .nn .i64 (x * 2), .rng (-9223372036854775808) (i + 1) 9223372036854775807]) : Ok (R67ft a b p x i) := Ok.dem (fl :=
 [false, false, false, false, true, false, false, false, false, true, false]) (by kernel_rfl) (by kernel_rfl) (by kernel_rfl) h
theorem R67ft_ex {a b p x i : Int} : (R67ft a b p x i).ex = .normal := by kernel_rfl
theorem R67ft_fm {a b p x i : Int} : (R67ft a b p x i).fm = [(0, .int .u8 a), (1, .int .u8 b), (5, .int .i64 p), (6, .int .i64 (ixor (x * 2) 283)), (7, .int .i64 (i + 1))] := by kernel_rfl
theorem R67ft_tab {a b p x i : Int} : (R67ft a b p x i).tab = [] := by kernel_rfl
noncomputable def R67ff (a b p x i : Int) : Out := trim 0 0 [0,1,5,6,7] (run (eA []) 31 ⟨0, []⟩ 100 (roundOf 0 f67) [(0, .int .u8 a), (1, .int .u8 b),(5,.int .i64 p),(6,.int .i64 x),(7,.int .i64 i)] [] [some true, some false, some false])
theorem R67ff_ok {a b p x i : Int} (h : allP [.p (decide (i < 8) = true), .rng 0 i 18446744073709551615, .rng 0 i 8, .nn .u8 (b / 2 ^ i.toNat), .p ((iand (b / 2 ^ i.toNat) 1 == 1) = false), .rng (-9223372036854775808) (x * 2) 9223372036854775807, .p (decide (255 < x * 2) = false), .rng (-9223372036854775808) (i + 1) 9223372036854775807]) : Ok (R67ff a b p x i) := Ok.dem (fl := [false, false, false,
 false, true, false, false, false, false]) (by kernel_rfl) (by kernel_rfl) (by kernel_rfl) h
theorem R67ff_ex {a b p x i : Int} : (R67ff a b p x i).ex = .normal := by kernel_rfl
theorem R67ff_fm {a b p x i : Int} : (R67ff a b p x i).fm = [(0, .int .u8 a), (1, .int .u8 b), (5, .int .i64 p), (6, .int .i64 (x * 2)), (7, .int .i64 (i + 1))] := by kernel_rfl
theorem R67ff_tab {a b p x i : Int} : (R67ff a b p x i).tab = [] := by kernel_rfl
noncomputable def L67 (a b p x i : Int) : Out := trim 0 0 [0,1,5,6,7] (run (eA []) 31 ⟨0, []⟩ 100 (roundOf 0 f67) [(0, .int .u8 a), (1, .int .u8 b),(5,.int .i64 p),(6,.int .i64 x),(7,.int .i64 i)] [] [some false])
theorem L67_ok {a b p x i : Int} (h : allP [.p (decide (i < 8) = false)]) : Ok (L67 a b p x i) := Ok.dem (fl := [false]) (by kernel_rfl) (by kernel_rfl) (by kernel_rfl) h
theorem L67_ex {a b p x i : Int} : (L67 a b p x i).ex = .exit 0 := by kernel_rfl
theorem L67_fm {a b p x i : Int} : (L67 a b p x i).fm = [(0, .int .u8 a), (1, .int .u8 b), (5, .int .i64 p), (6, .int .i64 x), (7, .int .i64 i)] := by kernel_rfl
theorem L67_tab {a b p x i : Int} : (L67 a b p x i).tab = [] := by kernel_rfl
theorem ediv_pow_bounds {b : Int} (h0 : 0 ≤ b) (hb : b < 256) (k : Nat) : 0 ≤ b / 2 ^ k ∧ b / 2 ^ k < 256 := by
  have hp : (0 : Int) < 2 ^ k := Int.pow_pos (by decide)
  have h1 : (1 : Int) ≤ 2 ^ k := hp
  exact ⟨Int.ediv_nonneg h0 (Int.le_of_lt hp), Int.lt_of_le_of_lt (Int.ediv_le_self _ h0) hb⟩
def txLaw (a : Int) : Nat → Int
  | 0 => a
  | i + 1 => if 255 < txLaw a i * 2 then ixor (txLaw a i * 2) 283 else txLaw a i * 2
def tpLaw (a b : Int) : Nat → Int
  | 0 => 0
  | i + 1 => if (iand (b / 2 ^ i) 1 == 1) = true then ixor (tpLaw a b i) (txLaw a i) else tpLaw a b i
theorem xor283 : ∀ y, y < 512 → 255 < y → y ^^^ 283 < 256 := by
  have : ((List.range 512).all fun y => !decide (255 < y) || decide (y ^^^ 283 < 256)) = true := by decide +kernel
  intro y hy h
  have := List.all_eq_true.1 this y (List.mem_range.2 hy)
  simpa [h] using this
theorem txLaw_lt {a : Int} (ha : 0 ≤ a ∧ a < 256) : ∀ i, 0 ≤ txLaw a i ∧ txLaw a i < 256
  | 0 => ha
  | i + 1 => by
    have := txLaw_lt ha i
    unfold txLaw
    split
    · have := xor283 (txLaw a i * 2).toNat (by omega) (by omega)
      unfold ixor
      simp only [show (283 : Int).toNat = 283 from rfl]
      omega
    · omega
theorem ixor_lt8 {a b : Int} (ha : 0 ≤ a ∧ a < 256) (hb : 0 ≤ b ∧ b < 256) : 0 ≤ ixor a b ∧ ixor a b < 256 := by
  have := Nat.xor_lt_two_pow (n := 8) (x := a.toNat) (y := b.toNat) (by omega) (by omega)
  unfold ixor; omega
theorem tpLaw_lt {a b : Int} (ha : 0 ≤ a ∧ a < 256) : ∀ i, 0 ≤ tpLaw a b i ∧ tpLaw a b i < 256
  | 0 => by simp [tpLaw]
  | i + 1 => by
    unfold tpLaw
    split
    · exact ixor_lt8 (tpLaw_lt ha i) (txLaw_lt ha i)
    · exact tpLaw_lt ha i
def F67 (a b : Int) (i : Nat) : Fm := [(0, .int .u8 a), (1, .int .u8 b), (5, .int .i64 (tpLaw a b i)), (6, .int .i64 (txLaw a i)), (7, .int .i64 i)]
theorem loop67 {a b : Int} (ha : 0 ≤ a ∧ a < 256) (hb : 0 ≤ b ∧ b < 256) : To (eA []) 31 0 (.block 0 (.loop (roundOf 0 f67))) (F67 a b 0) [] .normal (F67 a b 8) [] := by
  refine To.rounds (F67 a b) (fun _ => []) 8 (fun i hi => ?_) ?_
  · have hx := txLaw_lt ha i
    have hp := tpLaw_lt (b := b) ha i
    have hd := ediv_pow_bounds hb.1 hb.2 i
    have e1 : tpLaw a b (i + 1) = if (iand (b / 2 ^ i) 1 == 1) = true then ixor (tpLaw a b i) (txLaw a i) else tpLaw a b i := rfl
    have e2 : txLaw a (i + 1) = if 255 < txLaw a i * 2 then ixor (txLaw a i * 2) 283 else txLaw a i * 2 := rfl
    by_cases h1 : (iand (b / 2 ^ i) 1 == 1) = true <;> by_cases h2 : 255 < txLaw a i * 2
    · rw [if_pos h1] at e1; rw [if_pos h2] at e2
      exact To.of (o := R67tt a b (tpLaw a b i) (txLaw a i) i) eA0_ok hmA (Nat.le_refl 0) OrcOk.nil rfl (R67tt_ok (by simp only [allP, Con.h, nonneg, Int.toNat_natCast, decide_eq_true_eq, eq_self, true_and, and_true, h1]; omega)) R67tt_ex (by rw [R67tt_fm]; unfold F67; rw [e1, e2]; rfl) R67tt_tab
    · rw [if_pos h1] at e1; rw [if_neg h2] at e2
      exact To.of (o := R67tf a b (tpLaw a b i) (txLaw a i) i) eA0_ok hmA (Nat.le_refl 0) OrcOk.nil rfl (R67tf_ok (by simp only [allP, Con.h, nonneg, Int.toNat_natCast, decide_eq_true_eq, decide_eq_false_iff_not, eq_self, true_and, and_true, h1]; omega)) R67tf_ex (by rw [R67tf_fm]; unfold F67; rw [e1, e2]; rfl) R67tf_tab
    · rw [if_neg h1] at e1; rw [if_pos h2] at e2
      simp only [Bool.not_eq_true] at h1
      exact To.of (o := R67ft a b (tpLaw a b i) (txLaw a i) i) eA0_ok hmA (Nat.le_refl 0) OrcOk.nil rfl (R67ft_ok (by simp only [allP, Con.h, nonneg, Int.toNat_natCast, decide_eq_true_eq, decide_eq_false_iff_not, eq_self, true_and, and_true, h1]; omega)) R67ft_ex (by rw [R67ft_fm]; unfold F67; rw [e1, e2]; rfl) R67ft_tab
    · rw [if_neg h1] at e1; rw [if_neg h2] at e2
      simp only [Bool.not_eq_true] at h1
      exact To.of (o := R67ff a b (tpLaw a b i) (txLaw a i) i) eA0_ok hmA (Nat.le_refl 0) OrcOk.nil rfl (R67ff_ok (by simp only [allP, Con.h, nonneg, Int.toNat_natCast, decide_eq_true_eq, decide_eq_false_iff_not, eq_self, true_and, and_true, h1]; omega)) R67ff_ex (by rw [R67ff_fm]; unfold F67; rw [e1, e2]; rfl) R67ff_tab
  · exact To.of (o := L67 a b (tpLaw a b 8) (txLaw a 8) (8 : Nat)) eA0_ok hmA (Nat.le_refl 0) OrcOk.nil rfl (L67_ok (by simp [allP, Con.h])) L67_ex L67_fm L67_tab
def g67 : List AVal → Tab → Out := fun vs T => match vs, T with
  | [.int .u8 a, .int .u8 b, .int .i64 p, .int .i64 x, .int .i64 i], [] => ⟨[.rng 0 a 255, .rng 0 b 255, .rng 0 p 0, .rng a x a, .rng 0 i 0], .normal, F67 a b 8, [], []⟩
  | _, _ => failO
theorem g67_ok : BlkOk (eA []) f67 0 (.loop (roundOf 0 f67)) (blkS 0 [0,1,5,6,7] g67) := by
  refine blkS_ok fun vs T h => ?_
  unfold g67 at h ⊢
  split at h
  · rename_i a b p x i
    obtain ⟨h1, h2, h3, h4, h5, _⟩ := h.h
    obtain rfl : p = 0 := by have := h3.1; have := h3.2; omega
    obtain rfl : x = a := by have := h4.1; have := h4.2; omega
    obtain rfl : i = 0 := by have := h5.1; have := h5.2; omega
    exact loop67 ⟨h1.1, by have := h1.2; omega⟩ ⟨h2.1, by have := h2.2; omega⟩
  · exact absurd h nofailO
theorem orc67_ok : FnOrc (eA []) f67 [(0, blkS 0 [0,1,5,6,7] g67)] := FnOrc.cons g67_ok (by kernel_rfl) FnOrc.nil
noncomputable def R67 (a b : Int) : Res := runF (eA []) f67 [(0, blkS 0 [0,1,5,6,7] g67)] 100 [.int .u8 a, .int .u8 b] [] []
theorem R67_ok {a b : Int} (h : allP [.rng (-9223372036854775808) a 9223372036854775807, .rng 0 a 255, .rng 0 b 255, .rng a a a]) : OkR (R67 a b) := OkR.dem (fl := [false, false, false, true, false, true]) (by kernel_rfl) (by kernel_rfl) (by kernel_rfl) h
theorem R67_val {a b : Int} : (R67 a b).val = .int .u8 (tpLaw a b 8 % 256) := by kernel_rfl
theorem R67_tab {a b : Int} : (R67 a b).tab = [] := by kernel_rfl
def timesLaw (a b : Int) : Int := tpLaw a b 8
theorem timesLaw_lt {a b : Int} (ha : 0 ≤ a ∧ a < 256) : 0 ≤ timesLaw a b ∧ timesLaw a b < 256 := tpLaw_lt ha 8
def sm67 : Summary := fun args T => match args, T with
  | [.int .u8 a, .int .u8 b], [] => ⟨[.rng 0 a 255, .rng 0 b 255], .int .u8 (timesLaw a b), []⟩
  | _, _ => fail
theorem sm67_ok : SmOk prog (fun _ => none) 67 sm67 := by
  intro args T hc
  unfold sm67 at hc ⊢
  split at hc
  · rename_i a b
    obtain ⟨h1, h2, _⟩ := hc
    simp only [Con.h] at h1 h2
    have ha : 0 ≤ a ∧ a < 256 := by omega
    have := timesLaw_lt (b := b) ha
    refine small_of (R := R67 a b) eA0_ok hmA (f := 67) (fn := f67) (by kernel_rfl) (by kernel_rfl) orc67_ok rfl (R67_ok ?_) ?_ R67_tab
    · simp only [allP, Con.h, and_true]; omega
    · rw [R67_val]
      show AVal.int .u8 (tpLaw a b 8 % 256) = _
      rw [show tpLaw a b 8 % 256 = timesLaw a b by unfold timesLaw at *; omega]
  · exact absurd hc nofail
def S67 : Summary := callR sm67 []
theorem S67_ok : SumOk prog (fun _ => none) 67 S67 := callR_ok sm67_ok []
end Go.Abs

set_option linter.unusedVariables false
set_option linter.unusedSimpArgs false
set_option maxRecDepth 8000
namespace Go.Abs
open Go.Proofs.Try
/-! ### inverses, of the document -/
noncomputable def eB : Env := eA [(67, S67)]
theorem eB_ok : EnvOk eB := envOf_ok tysA_ok (SumsOk.cons (fn := f67) S67_ok (by kernel_rfl) (by kernel_rfl) (by kernel_rfl) trivial)
noncomputable def A65 (x i : Int) (xs : List Int) (g n : Nat) : Out := trim 1 1 [1,2,3] (run eB 34 ⟨1, []⟩ 100 (roundOf 0 f65) [(1, .slice 1 0 g 0 n none), (2, .int .u8 x), (3, .int .i64 i)] [some ⟨.ints .u8 xs, g, true, 5⟩] [some true])
theorem A65_ok {x i : Int} {xs : List Int} {g n : Nat} (h : allP [.p (decide (i < 255) = true), .eqN g g, .leN (0 + n) xs.length, .leN (addO n 1) 140737488355328, .rng 0 x 255, .rng (-9223372036854775808) (i + 1) 9223372036854775807]) : Ok (A65 x i xs g n) := Ok.dem (fl := bitsF 13 2958) (by kernel_rfl) (by kernel_rfl) (by kernel_rfl) h
theorem A65_ex {x i : Int} {xs : List Int} {g n : Nat} : (A65 x i xs g n).ex = .normal := by kernel_rfl
theorem A65_fm {x i : Int} {xs : List Int} {g n : Nat} : (A65 x i xs g n).fm = [(1, .slice 1 0 (g + 1) 0 (addO n 1) none), (2, .int .u8 (timesLaw x 3)), (3, .int .i64 (i + 1))] := by kernel_rfl
theorem A65_tab {x i : Int} {xs : List Int} {g n : Nat} : (A65 x i xs g n).tab = [some ⟨.ints .u8 (List.take n (dropO 0 xs) ++ [x]), g + 1, true, 5⟩] := by kernel_rfl
noncomputable def B65 (x i : Int) (xs : List Int) (g n : Nat) : Out := trim 1 1 [1] (run eB 34 ⟨1, []⟩ 100 (roundOf 0 f65) [(1, .slice 1 0 g 0 n none), (2, .int .u8 x), (3, .int .i64 i)] [some ⟨.ints .u8 xs, g, true, 5⟩] [some false])
theorem B65_ok {x i : Int} {xs : List Int} {g n : Nat} (h : allP [.p (decide (i < 255) = false)]) : Ok (B65 x i xs g n) := Ok.dem (fl := [false]) (by kernel_rfl) (by kernel_rfl) (by kernel_rfl) h
theorem B65_ex {x i : Int} {xs : List Int} {g n : Nat} : (B65 x i xs g n).ex = .exit 0 := by kernel_rfl
theorem B65_fm {x i : Int} {xs : List Int} {g n : Nat} : (B65 x i xs g n).fm = [(1, .slice 1 0 g 0 n none)] := by kernel_rfl
theorem B65_tab {x i : Int} {xs : List Int} {g n : Nat} : (B65 x i xs g n).tab = [some ⟨.ints .u8 xs, g, true, 5⟩] := by kernel_rfl
noncomputable def C65 (i : Int) (xs ys : List Int) : Out := trim 2 2 [1,4,5] (run eB 34 ⟨2, []⟩ 100 (roundOf 2 f65) [(1, .slice 1 0 255 0 255 none), (4, .slice 1 1 0 0 256 (some 256)), (5, .int .i64 i)] [some ⟨.ints .u8 xs, 255, true, 5⟩, some ⟨.ints .u8 ys, 0, true, 5⟩] [some true])
theorem C65_ok {i : Int} {xs ys : List Int} (h : allP [.p (decide (i < 255) = true), .leI 0 i, .leI (i + 1) 255, .leN (i.toNat + 1) xs.length, .rng (-9223372036854775808) (255 - i) 9223372036854775807, .leI 0 ((255 - i).tmod 255), .leI ((255 - i).tmod 255 + 1) 255, .leN (((255 - i).tmod 255).toNat + 1) xs.length, .leI 0 (xs.getD i.toNat 0), .leI (xs.getD i.toNat 0 + 1) 256, .leN ((xs.getD i.toNat
 0).toNat + 1) ys.length, .rng (-9223372036854775808) (i + 1) 9223372036854775807]) : Ok (C65 i xs ys) := Ok.dem (fl := bitsF 23 1463076) (by kernel_rfl) (by kernel_rfl) (by kernel_rfl) h
theorem C65_ex {i : Int} {xs ys : List Int} : (C65 i xs ys).ex = .normal := by kernel_rfl
theorem C65_fm {i : Int} {xs ys : List Int} : (C65 i xs ys).fm = [(1, .slice 1 0 255 0 255 none), (4, .slice 1 1 0 0 256 (some 256)), (5, .int .i64 (i + 1))] := by kernel_rfl
theorem C65_tab {i : Int} {xs ys : List Int} : (C65 i xs ys).tab = [some ⟨.ints .u8 xs, 255, true, 5⟩, some ⟨.ints .u8 (ys.set (xs.getD i.toNat 0).toNat (xs.getD ((255 - i).tmod 255).toNat 0)), 0, true, 5⟩] := by kernel_rfl
noncomputable def D65 (i : Int) (xs ys : List Int) : Out := trim 2 2 [4] (run eB 34 ⟨2, []⟩ 100 (roundOf 2 f65) [(1, .slice 1 0 255 0 255 none), (4, .slice 1 1 0 0 256 (some 256)), (5, .int .i64 i)] [some ⟨.ints .u8 xs, 255, true, 5⟩, some ⟨.ints .u8 ys, 0, true, 5⟩] [some false])
theorem D65_ok {i : Int} {xs ys : List Int} (h : allP [.p (decide (i < 255) = false)]) : Ok (D65 i xs ys) := Ok.dem (fl := [false]) (by kernel_rfl) (by kernel_rfl) (by kernel_rfl) h
theorem D65_ex {i : Int} {xs ys : List Int} : (D65 i xs ys).ex = .exit 2 := by kernel_rfl
theorem D65_fm {i : Int} {xs ys : List Int} : (D65 i xs ys).fm = [(4, .slice 1 1 0 0 256 (some 256))] := by kernel_rfl
theorem D65_tab {i : Int} {xs ys : List Int} : (D65 i xs ys).tab = [some ⟨.ints .u8 xs, 255, true, 5⟩, some ⟨.ints .u8 ys, 0, true, 5⟩] := by kernel_rfl
def pwLaw : Nat → Int
  | 0 => 1
  | i + 1 => timesLaw (pwLaw i) 3
def pwsLaw (i : Nat) : List Int := (List.range i).map pwLaw
theorem pwLaw_lt : ∀ i, 0 ≤ pwLaw i ∧ pwLaw i < 256
  | 0 => by decide
  | i + 1 => timesLaw_lt (pwLaw_lt i)
theorem pwsLaw_len (i : Nat) : (pwsLaw i).length = i := by simp [pwsLaw]
theorem pwsLaw_succ (i : Nat) : pwsLaw (i + 1) = pwsLaw i ++ [pwLaw i] := by simp [pwsLaw, List.range_succ]
theorem pwsLaw_get {i n : Nat} (h : i < n) : (pwsLaw n).getD i 0 = pwLaw i := by simp [pwsLaw, List.getD, h]
def F65 (i : Nat) : Fm := [(1, .slice 1 0 i 0 i none), (2, .int .u8 (pwLaw i)), (3, .int .i64 i)]
theorem loop65 : To eB 34 1 (.block 0 (.loop (roundOf 0 f65))) (F65 0) [some ⟨.ints .u8 [], 0, true, 5⟩] .normal [(1, .slice 1 0 255 0 255 none)] [some ⟨.ints .u8 (pwsLaw 255), 255, true, 5⟩] := by
  refine To.rounds F65 (fun i => [some ⟨.ints .u8 (pwsLaw i), i, true, 5⟩]) 255 (fun i hi => ?_) ?_
  · have hx := pwLaw_lt i
    have hl := pwsLaw_len i
    refine To.of (o := A65 (pwLaw i) i (pwsLaw i) i i) eB_ok hmA (Nat.le_refl 1) OrcOk.nil rfl (A65_ok (by simp only [allP, Con.h, nonneg, Int.toNat_natCast, decide_eq_true_eq, decide_eq_false_iff_not, eq_self, true_and, and_true, Bool.true_eq, addO_eq, mulO_eq, Nat.zero_add, hl]; omega)) A65_ex ?_ ?_
    · rw [A65_fm, addO_eq]; rfl
    · rw [A65_tab, dropO_eq, List.drop_zero, List.take_of_length_le (by omega), pwsLaw_succ]
  · exact To.of (o := B65 (pwLaw 255) (255 : Nat) (pwsLaw 255) 255 255) eB_ok hmA (Nat.le_refl 1) OrcOk.nil rfl (B65_ok (by simp [allP, Con.h])) B65_ex B65_fm B65_tab
def invLaw (xs : List Int) : Nat → List Int
  | 0 => List.replicate 256 0
  | i + 1 => (invLaw xs i).set (xs.getD i 0).toNat (xs.getD ((255 - i) % 255) 0)
theorem invLaw_len (xs : List Int) : ∀ i, (invLaw xs i).length = 256
  | 0 => by simp [invLaw]
  | i + 1 => by simp [invLaw, invLaw_len xs i]
def G65 (i : Nat) : Fm := [(1, .slice 1 0 255 0 255 none), (4, .slice 1 1 0 0 256 (some 256)), (5, .int .i64 i)]
theorem loop65b {xs : List Int} (hl : xs.length = 255) (hx : ∀ i, i < 255 → 0 ≤ xs.getD i 0 ∧ xs.getD i 0 < 256) :
    To eB 34 2 (.block 2 (.loop (roundOf 2 f65))) (G65 0) [some ⟨.ints .u8 xs, 255, true, 5⟩, some ⟨.ints .u8 (invLaw xs 0), 0, true, 5⟩] .normal [(4, .slice 1 1 0 0 256 (some 256))] [some ⟨.ints .u8 xs, 255, true, 5⟩, some ⟨.ints .u8 (invLaw xs 255), 0, true, 5⟩] := by
  refine To.rounds G65 (fun i => [some ⟨.ints .u8 xs, 255, true, 5⟩, some ⟨.ints .u8 (invLaw xs i), 0, true, 5⟩]) 255 (fun i hi => ?_) ?_
  · have h1 := hx i hi
    have h2 := invLaw_len xs i
    have e : ((255 - (i : Int)).tmod 255) = (((255 - i) % 255 : Nat) : Int) := by
      rw [Int.tmod_eq_emod_of_nonneg (by omega)]; omega
    have h3 : (255 - i) % 255 < 255 := Nat.mod_lt _ (by decide)
    refine To.of (o := C65 i xs (invLaw xs i)) eB_ok hmA (Nat.le_refl 2) OrcOk.nil rfl (C65_ok ?_) C65_ex C65_fm ?_
    · rw [e]
      generalize (255 - i) % 255 = k at h3 ⊢
      simp only [allP, Con.h, nonneg, Int.toNat_natCast, decide_eq_true_eq, decide_eq_false_iff_not, eq_self, true_and, and_true, Bool.true_eq, addO_eq, mulO_eq, Nat.zero_add, hl, h2]
      omega
    · rw [C65_tab, e, Int.toNat_natCast, Int.toNat_natCast]; rfl
  · exact To.of (o := D65 (255 : Nat) xs (invLaw xs 255)) eB_ok hmA (Nat.le_refl 2) OrcOk.nil rfl (D65_ok (by simp [allP, Con.h])) D65_ex D65_fm D65_tab
def g65 : List AVal → Tab → Out := fun vs T => match vs, T with
  | [.nilSlice, .int .u8 x, .int .i64 i], [] => ⟨[.rng 1 x 1, .rng 0 i 0], .normal, [(1, .slice 1 0 255 0 255 none)], [some ⟨.ints .u8 (pwsLaw 255), 255, true, 5⟩], []⟩
  | _, _ => failO
theorem g65_ok : BlkOk eB f65 0 (.loop (roundOf 0 f65)) (blkS 0 [1,2,3] g65) := by
  refine blkS_ok fun vs T h => ?_
  unfold g65 at h ⊢
  split at h
  · rename_i x i
    obtain ⟨h1, h2, _⟩ := h.h
    simp only [Con.h] at h1 h2
    obtain rfl : x = 1 := by omega
    obtain rfl : i = 0 := by omega
    refine AWp.nilTo (F65 0) .u8 5 (fun t v hv => ?_) (To.base (Nat.zero_le 1) loop65)
    simp only [F65, look, zipF] at hv ⊢
    repeat' split at hv
    all_goals first | cases hv | skip
    all_goals first | rfl | simp_all [look]
    all_goals rfl
  · exact absurd h nofailO
def INVLaw : List Int := [0, 1, 141, 246, 203, 82, 123, 209, 232, 79, 41, 192, 176, 225, 229, 199, 116, 180, 170, 75, 153, 43, 96, 95, 88, 63, 253, 204, 255, 64, 238, 178, 58, 110, 90, 241, 85, 77, 168, 201, 193, 10, 152, 21, 48, 68, 162, 194, 44, 69, 146, 108, 243, 57, 102, 66, 242, 53, 32, 111, 119, 187, 89, 25, 29, 254, 55, 103, 45, 49, 245, 105, 167, 100, 171, 19, 84, 37, 233, 9, 237, 92, 5, 202, 76, 36, 135, 191, 24, 62, 34, 240, 81, 236, 97, 23, 22, 94, 175, 211, 73, 166, 54, 67, 244, 71, 145, 223, 51, 147, 33, 59, 121, 183, 151, 133, 16, 181, 186, 60, 182, 112, 208, 6, 161, 250, 129, 130, 131, 126, 127, 128, 150, 115, 190, 86, 155, 158, 149, 217, 247, 2, 185, 164, 222, 106, 50, 109, 216, 138, 132, 114, 42, 20, 159, 136, 249, 220, 137, 154, 251, 124, 46, 195, 143, 184, 101, 72, 38, 200, 18, 74, 206, 231, 210, 98, 12, 224, 31, 239, 17, 117, 120, 113, 165, 142, 118, 61, 189, 188, 134, 87, 11, 40, 47, 163, 218, 212, 228, 15, 169, 39, 83, 4, 27, 252, 172, 230, 122, 7, 174, 99, 197, 219, 226, 234, 148, 139, 196, 213, 157, 248, 144, 107, 177, 13, 214, 235, 198, 14, 207, 173, 8, 78, 215, 227, 93, 80, 30, 179, 91, 35, 56, 52, 104, 70, 3, 140, 221, 156, 125, 160, 205, 26, 65, 28]
theorem INV_eq : invLaw (pwsLaw 255) 255 = INVLaw := by kernel_rfl
def h65 : List AVal → Tab → Out := fun vs T => match vs, T with
  | [.slice 1 0 255 0 255 none, .slice 1 1 0 0 256 (some 256), .int .i64 i], [some ⟨.ints .u8 xs, 255, true, 5⟩, some ⟨.ints .u8 ys, 0, true, 5⟩] =>
    ⟨[.rng 0 i 0, .p (xs = pwsLaw 255 ∧ ys = invLaw xs 0)], .normal, [(4, .slice 1 1 0 0 256 (some 256))], [some ⟨.ints .u8 xs, 255, true, 5⟩, some ⟨.ints .u8 INVLaw, 0, true, 5⟩], []⟩
  | _, _ => failO
theorem h65_ok : BlkOk eB f65 2 (.loop (roundOf 2 f65)) (blkS 2 [1,4,5] h65) := by
  refine blkS_ok fun vs T h => ?_
  unfold h65 at h ⊢
  split at h
  · rename_i i xs ys
    obtain ⟨h1, h2, _⟩ := h.h
    simp only [Con.h] at h1 h2
    obtain rfl : i = 0 := by omega
    obtain ⟨rfl, rfl⟩ := h2
    have := loop65b (xs := pwsLaw 255) (pwsLaw_len _) (fun i hi => by rw [pwsLaw_get hi]; exact pwLaw_lt i)
    rw [INV_eq] at this
    exact this
  · exact absurd h nofailO
noncomputable def orc65 : OrcL := [(0, blkS 0 [1,2,3] g65), (2, blkS 2 [1,4,5] h65)]
theorem orc65_ok : FnOrc eB f65 orc65 := FnOrc.cons g65_ok (by kernel_rfl) (FnOrc.cons h65_ok (by kernel_rfl) FnOrc.nil)
noncomputable def R65  : Res := runF eB f65 orc65 100 [] [] []
theorem R65_ok  (h : allP [.p (pwsLaw 255 = pwsLaw 255 ∧ [0, 0, 0, 0, 0, 0, 0, 0, 0, 0, 0, 0, 0, 0, 0, 0, 0, 0, 0, 0, 0, 0, 0, 0, 0, 0, 0, 0, 0, 0, 0, 0, 0, 0, 0, 0, 0, 0, 0, 0, 0, 0, 0, 0, 0, 0, 0, 0, 0, 0, 0, 0, 0, 0, 0, 0, 0, 0, 0, 0, 0, 0, 0, 0, 0, 0, 0, 0, 0, 0, 0, 0, 0, 0, 0, 0, 0, 0, 0, 0, 0, 0, 0, 0, 0, 0, 0, 0, 0, 0, 0, 0, 0, 0, 0, 0, 0, 0, 0, 0, 0, 0, 0, 0, 0, 0, 0, 0, 0, 0, 0, 0, 0, 0,
 0, 0, 0, 0, 0, 0, 0, 0, 0, 0, 0, 0, 0, 0, 0, 0, 0, 0, 0, 0, 0, 0, 0, 0, 0, 0, 0, 0, 0, 0, 0, 0, 0, 0, 0, 0, 0, 0, 0, 0, 0, 0, 0, 0, 0, 0, 0, 0, 0, 0, 0, 0, 0, 0, 0, 0, 0, 0, 0, 0, 0, 0, 0, 0, 0, 0, 0, 0, 0, 0, 0, 0, 0, 0, 0, 0, 0, 0, 0, 0, 0, 0, 0, 0, 0, 0, 0, 0, 0, 0, 0, 0, 0, 0, 0, 0, 0, 0, 0, 0, 0, 0, 0, 0, 0, 0, 0, 0, 0, 0, 0, 0, 0, 0, 0, 0, 0, 0, 0, 0, 0, 0, 0, 0, 0, 0, 0, 0, 0, 0, 0, 0, 0, 0,
 0, 0, 0, 0, 0, 0, 0, 0] = invLaw (pwsLaw 255) 0)]) : OkR (R65 ) := OkR.dem (fl := [true, true, true, true, true, true, true, false]) (by kernel_rfl) (by kernel_rfl) (by kernel_rfl) h
theorem R65_val  : (R65 ).val = .slice 1 1 0 0 256 (some 256) := by kernel_rfl
theorem R65_tab  : (R65 ).tab = [some ⟨.ints .u8 (pwsLaw 255), 255, true, 5⟩, some ⟨.ints .u8 [0, 1, 141, 246, 203, 82, 123, 209, 232, 79, 41, 192, 176, 225, 229, 199, 116, 180, 170, 75, 153, 43, 96, 95, 88, 63, 253, 204, 255, 64, 238, 178, 58, 110, 90, 241, 85, 77, 168, 201, 193, 10, 152, 21, 48, 68, 162, 194, 44, 69, 146, 108, 243, 57, 102, 66, 242, 53, 32, 111, 119, 187, 89, 25, 29, 254, 55,
 103, 45, 49, 245, 105, 167, 100, 171, 19, 84, 37, 233, 9, 237, 92, 5, 202, 76, 36, 135, 191, 24, 62, 34, 240, 81, 236, 97, 23, 22, 94, 175, 211, 73, 166, 54, 67, 244, 71, 145, 223, 51, 147, 33, 59, 121, 183, 151, 133, 16, 181, 186, 60, 182, 112, 208, 6, 161, 250, 129, 130, 131, 126, 127, 128, 150, 115, 190, 86, 155, 158, 149, 217, 247, 2, 185, 164, 222, 106, 50, 109, 216, 138, 132, 114, 42, 20,
 159, 136, 249, 220, 137, 154, 251, 124, 46, 195, 143, 184, 101, 72, 38, 200, 18, 74, 206, 231, 210, 98, 12, 224, 31, 239, 17, 117, 120, 113, 165, 142, 118, 61, 189, 188, 134, 87, 11, 40, 47, 163, 218, 212, 228, 15, 169, 39, 83, 4, 27, 252, 172, 230, 122, 7, 174, 99, 197, 219, 226, 234, 148, 139, 196, 213, 157, 248, 144, 107, 177, 13, 214, 235, 198, 14, 207, 173, 8, 78, 215, 227, 93, 80, 30, 179,
 91, 35, 56, 52, 104, 70, 3, 140, 221, 156, 125, 160, 205, 26, 65, 28], 0, true, 5⟩] := by kernel_rfl
def sm65 : Summary := fun args T => match args, T with
  | [], [] => ⟨[], .slice 1 1 0 0 256 (some 256), [some ⟨.ints .u8 (pwsLaw 255), 255, true, 5⟩, some ⟨.ints .u8 INVLaw, 0, true, 5⟩]⟩
  | _, _ => fail
theorem sm65_ok : SmOk prog (fun _ => none) 65 sm65 := by
  intro args T hc
  unfold sm65 at hc ⊢
  split at hc
  · exact small_of (R := R65) eB_ok hmA (f := 65) (fn := f65) (by kernel_rfl) (by kernel_rfl) orc65_ok rfl (R65_ok ⟨⟨rfl, by kernel_rfl⟩, trivial⟩) R65_val R65_tab
  · exact absurd hc nofail
def S65 : Summary := callR sm65 []
theorem S65_ok : SumOk prog (fun _ => none) 65 S65 := callR_ok sm65_ok []
end Go.Abs

set_option linter.unusedVariables false
set_option linter.unusedSimpArgs false
set_option maxRecDepth 8000
namespace Go.Abs
open Go.Proofs.Try
/-! ### boxes, of the document -/
noncomputable def eC : Env := eA [(67, S67), (65, S65)]
theorem eC_ok : EnvOk eC := envOf_ok tysA_ok (SumsOk.cons (fn := f67) S67_ok (by kernel_rfl) (by kernel_rfl) (by kernel_rfl) (SumsOk.cons (fn := f65) S65_ok (by kernel_rfl) (by kernel_rfl) (by kernel_rfl) trivial))
noncomputable def A39 (v xs : List Int) (i : Int) (g n : Nat) : Out := trim 2 2 [1,2,3] (run eC 39 ⟨2, []⟩ 400 (roundOf 0 f39) [(1, .slice 1 0 0 0 256 (some 256)), (2, .slice 1 1 g 0 n none), (3, .int .i64 i)] [some ⟨.ints .u8 v, 0, true, 5⟩, some ⟨.ints .u8 xs, g, true, 5⟩] [some true])
theorem A39_ok {v xs : List Int} {i : Int} {g n : Nat} (h : allP [.p (decide (i < 256) = true), .leI 0 i, .leI (i + 1) 256, .leN (i.toNat + 1) v.length, .nn .u8 (v.getD i.toNat 0), .nn .u8 (v.getD i.toNat 0 * 2 % 256), .nn .u8 (v.getD i.toNat 0 / 128), .nn .u8 (ixor (v.getD i.toNat 0) 99), .nn .u8 (ior (v.getD i.toNat 0 * 2 % 256) (v.getD i.toNat 0 / 128)), .nn .u8 (v.getD i.toNat 0 * 4 % 256), .nn
 .u8 (v.getD i.toNat 0 / 64), .nn .u8 (ixor (ixor (v.getD i.toNat 0) 99) (ior (v.getD i.toNat 0 * 2 % 256) (v.getD i.toNat 0 / 128))), .nn .u8 (ior (v.getD i.toNat 0 * 4 % 256) (v.getD i.toNat 0 / 64)), .nn .u8 (v.getD i.toNat 0 * 8 % 256), .nn .u8 (v.getD i.toNat 0 / 32), .nn .u8 (ixor (ixor (ixor (v.getD i.toNat 0) 99) (ior (v.getD i.toNat 0 * 2 % 256) (v.getD i.toNat 0 / 128))) (ior (v.getD
 i.toNat 0 * 4 % 256) (v.getD i.toNat 0 / 64))), .nn .u8 (ior (v.getD i.toNat 0 * 8 % 256) (v.getD i.toNat 0 / 32)), .nn .u8 (v.getD i.toNat 0 * 16 % 256), .nn .u8 (v.getD i.toNat 0 / 16), .nn .u8 (ixor (ixor (ixor (ixor (v.getD i.toNat 0) 99) (ior (v.getD i.toNat 0 * 2 % 256) (v.getD i.toNat 0 / 128))) (ior (v.getD i.toNat 0 * 4 % 256) (v.getD i.toNat 0 / 64))) (ior (v.getD i.toNat 0 * 8 % 256)
 (v.getD i.toNat 0 / 32))), .nn .u8 (ior (v.getD i.toNat 0 * 16 % 256) (v.getD i.toNat 0 / 16)), .eqN g g, .leN (0 + n) xs.length, .leN (addO n 1) 140737488355328, .rng (-9223372036854775808) (i + 1) 9223372036854775807]) : Ok (A39 v xs i g n) := Ok.dem (fl := bitsF 58 128220519009755026) (by kernel_rfl) (by kernel_rfl) (by kernel_rfl) h
theorem A39_ex {v xs : List Int} {i : Int} {g n : Nat} : (A39 v xs i g n).ex = .normal := by kernel_rfl
theorem A39_fm {v xs : List Int} {i : Int} {g n : Nat} : (A39 v xs i g n).fm = [(1, .slice 1 0 0 0 256 (some 256)), (2, .slice 1 1 (g + 1) 0 (addO n 1) none), (3, .int .i64 (i + 1))] := by kernel_rfl
theorem A39_tab {v xs : List Int} {i : Int} {g n : Nat} : (A39 v xs i g n).tab = [some ⟨.ints .u8 v, 0, true, 5⟩, some ⟨.ints .u8 (List.take n (dropO 0 xs) ++ [ixor (ixor (ixor (ixor (ixor (v.getD i.toNat 0) 99) (ior (v.getD i.toNat 0 * 2 % 256) (v.getD i.toNat 0 / 128))) (ior (v.getD i.toNat 0 * 4 % 256) (v.getD i.toNat 0 / 64))) (ior (v.getD i.toNat 0 * 8 % 256) (v.getD i.toNat 0 / 32))) (ior
 (v.getD i.toNat 0 * 16 % 256) (v.getD i.toNat 0 / 16))]), g + 1, true, 5⟩] := by kernel_rfl
noncomputable def B39 (v xs : List Int) (i : Int) (g n : Nat) : Out := trim 2 2 [2] (run eC 39 ⟨2, []⟩ 400 (roundOf 0 f39) [(1, .slice 1 0 0 0 256 (some 256)), (2, .slice 1 1 g 0 n none), (3, .int .i64 i)] [some ⟨.ints .u8 v, 0, true, 5⟩, some ⟨.ints .u8 xs, g, true, 5⟩] [some false])
theorem B39_ok {v xs : List Int} {i : Int} {g n : Nat} (h : allP [.p (decide (i < 256) = false)]) : Ok (B39 v xs i g n) := Ok.dem (fl := [false]) (by kernel_rfl) (by kernel_rfl) (by kernel_rfl) h
theorem B39_ex {v xs : List Int} {i : Int} {g n : Nat} : (B39 v xs i g n).ex = .exit 0 := by kernel_rfl
theorem B39_fm {v xs : List Int} {i : Int} {g n : Nat} : (B39 v xs i g n).fm = [(2, .slice 1 1 g 0 n none)] := by kernel_rfl
theorem B39_tab {v xs : List Int} {i : Int} {g n : Nat} : (B39 v xs i g n).tab = [some ⟨.ints .u8 v, 0, true, 5⟩, some ⟨.ints .u8 xs, g, true, 5⟩] := by kernel_rfl
def bxLaw (y : Int) : Int := ixor (ixor (ixor (ixor (ixor y 99) (ior (y * 2 % 256) (y / 128))) (ior (y * 4 % 256) (y / 64))) (ior (y * 8 % 256) (y / 32))) (ior (y * 16 % 256) (y / 16))
def bxsLaw (v : List Int) (i : Nat) : List Int := (List.range i).map fun j => bxLaw (v.getD j 0)
theorem bxsLaw_len (v : List Int) (i : Nat) : (bxsLaw v i).length = i := by simp [bxsLaw]
theorem bxsLaw_succ (v : List Int) (i : Nat) : bxsLaw v (i + 1) = bxsLaw v i ++ [bxLaw (v.getD i 0)] := by simp [bxsLaw, List.range_succ]
def F39 (i : Nat) : Fm := [(1, .slice 1 0 0 0 256 (some 256)), (2, .slice 1 1 i 0 i none), (3, .int .i64 i)]
theorem loop39 {v : List Int} (hv : v.length = 256) (hr : ∀ i, i < 256 → 0 ≤ v.getD i 0 ∧ v.getD i 0 < 256) :
    To eC 39 2 (.block 0 (.loop (roundOf 0 f39))) (F39 0) [some ⟨.ints .u8 v, 0, true, 5⟩, some ⟨.ints .u8 [], 0, true, 5⟩] .normal [(2, .slice 1 1 256 0 256 none)] [some ⟨.ints .u8 v, 0, true, 5⟩, some ⟨.ints .u8 (bxsLaw v 256), 256, true, 5⟩] := by
  refine To.rounds F39 (fun i => [some ⟨.ints .u8 v, 0, true, 5⟩, some ⟨.ints .u8 (bxsLaw v i), i, true, 5⟩]) 256 (fun i hi => ?_) ?_
  · have hy := hr i hi
    have hl := bxsLaw_len v i
    refine To.of (o := A39 v (bxsLaw v i) i i i) eC_ok hmA (Nat.le_refl 2) OrcOk.nil rfl (A39_ok ?_) A39_ex ?_ ?_
    · simp only [Int.toNat_natCast]
      generalize v.getD i 0 = y at hy ⊢
      simp only [allP, Con.h, hl, hv, addO_eq]
      have hy' : nonneg .u8 y := hy
      repeat' with_reducible apply And.intro
      all_goals first | trivial | rfl | omega | (simp only [decide_eq_true_eq]; omega) | skip
      all_goals repeat' (first | exact hy' | (rw [nn8]; omega) | apply nn_xor | apply nn_or)
    · rw [A39_fm, addO_eq]; rfl
    · rw [A39_tab, dropO_eq, List.drop_zero, List.take_of_length_le (by omega), bxsLaw_succ, Int.toNat_natCast]; rfl
  · exact To.of (o := B39 v (bxsLaw v 256) (256 : Nat) 256 256) eC_ok hmA (Nat.le_refl 2) OrcOk.nil rfl (B39_ok (by simp [allP, Con.h])) B39_ex B39_fm B39_tab
theorem INVLaw_len : INVLaw.length = 256 := by kernel_rfl
theorem INVLaw_rng : ∀ i, i < 256 → 0 ≤ INVLaw.getD i 0 ∧ INVLaw.getD i 0 < 256 := by
  have : ((List.range 256).all fun i => decide (0 ≤ INVLaw.getD i 0) && decide (INVLaw.getD i 0 < 256)) = true := by kernel_rfl
  intro i hi
  have := List.all_eq_true.1 this i (List.mem_range.2 hi)
  simpa using this
def BOXLaw : List Int := [99, 124, 119, 123, 242, 107, 111, 197, 48, 1, 103, 43, 254, 215, 171, 118, 202, 130, 201, 125, 250, 89, 71, 240, 173, 212, 162, 175, 156, 164, 114, 192, 183, 253, 147, 38, 54, 63, 247, 204, 52, 165, 229, 241, 113, 216, 49, 21, 4, 199, 35, 195, 24, 150, 5, 154, 7, 18, 128, 226, 235, 39, 178, 117, 9, 131, 44, 26, 27, 110, 90, 160, 82, 59, 214, 179, 41, 227, 47, 132, 83, 209, 0, 237, 32, 252, 177, 91, 106, 203, 190, 57, 74, 76, 88, 207, 208, 239, 170, 251, 67, 77, 51, 133, 69, 249, 2, 127, 80, 60, 159, 168, 81, 163, 64, 143, 146, 157, 56, 245, 188, 182, 218, 33, 16, 255, 243, 210, 205, 12, 19, 236, 95, 151, 68, 23, 196, 167, 126, 61, 100, 93, 25, 115, 96, 129, 79, 220, 34, 42, 144, 136, 70, 238, 184, 20, 222, 94, 11, 219, 224, 50, 58, 10, 73, 6, 36, 92, 194, 211, 172, 98, 145, 149, 228, 121, 231, 200, 55, 109, 141, 213, 78, 169, 108, 86, 244, 234, 101, 122, 174, 8, 186, 120, 37, 46, 28, 166, 180, 198, 232, 221, 116, 31, 75, 189, 139, 138, 112, 62, 181, 102, 72, 3, 246, 14, 97, 53, 87, 185, 134, 193, 29, 158, 225, 248, 152, 17, 105, 217, 142, 148, 155, 30, 135, 233, 206, 85, 40, 223, 140, 161, 137, 13, 191, 230, 66, 104, 65, 153, 45, 15, 176, 84, 187, 22]
theorem BOXLaw_eq : bxsLaw INVLaw 256 = BOXLaw := by kernel_rfl
def g39 : List AVal → Tab → Out := fun vs T => match vs, T with
  | [.slice 1 0 0 0 256 (some 256), .nilSlice, .int .i64 i], [some ⟨.ints .u8 v, 0, true, 5⟩] =>
    ⟨[.rng 0 i 0, .p (v = INVLaw)], .normal, [(2, .slice 1 1 256 0 256 none)], [some ⟨.ints .u8 v, 0, true, 5⟩, some ⟨.ints .u8 BOXLaw, 256, true, 5⟩], []⟩
  | _, _ => failO
theorem g39_ok : BlkOk eC f39 0 (.loop (roundOf 0 f39)) (blkS 1 [1,2,3] g39) := by
  refine blkS_ok fun vs T h => ?_
  unfold g39 at h ⊢
  split at h
  · rename_i i v
    obtain ⟨h1, h2, _⟩ := h.h
    simp only [Con.h] at h1 h2
    obtain rfl : i = 0 := by omega
    subst h2
    have := loop39 INVLaw_len INVLaw_rng
    rw [BOXLaw_eq] at this
    refine AWp.nilTo (F39 0) .u8 5 (fun t v hv => ?_) (To.base (by decide) this)
    simp only [F39, look, zipF] at hv ⊢
    repeat' split at hv
    all_goals first | cases hv | skip
    all_goals first | rfl | simp_all [look]
  · exact absurd h nofailO
noncomputable def orc39 : OrcL := [(0, blkS 1 [1,2,3] g39)]
theorem orc39_ok : FnOrc eC f39 orc39 := FnOrc.cons g39_ok (by kernel_rfl) FnOrc.nil
noncomputable def R39  : Res := runF eC f39 orc39 100 [] [] []
theorem R39_ok  (h : allP [.p (INVLaw = INVLaw)]) : OkR (R39 ) := OkR.dem (fl := [true, false]) (by kernel_rfl) (by kernel_rfl) (by kernel_rfl) h
theorem R39_val  : (R39 ).val = .slice 1 1 256 0 256 none := by kernel_rfl
theorem R39_tab  : (R39 ).tab = [some ⟨.ints .u8 INVLaw, 0, true, 5⟩, some ⟨.ints .u8 BOXLaw, 256, true, 5⟩] := by kernel_rfl
def sm39 : Summary := fun args T => match args, T with
  | [], [] => ⟨[], .slice 1 1 256 0 256 none, [some ⟨.ints .u8 INVLaw, 0, true, 5⟩, some ⟨.ints .u8 BOXLaw, 256, true, 5⟩]⟩
  | _, _ => fail
theorem sm39_ok : SmOk prog (fun _ => none) 39 sm39 := by
  intro args T hc
  unfold sm39 at hc ⊢
  split at hc
  · exact small_of (R := R39) eC_ok hmA (f := 39) (fn := f39) (by kernel_rfl) (by kernel_rfl) orc39_ok rfl (R39_ok ⟨rfl, trivial⟩) R39_val R39_tab
  · exact absurd hc nofail
def S39 : Summary := callR sm39 []
theorem S39_ok : SumOk prog (fun _ => none) 39 S39 := callR_ok sm39_ok []
end Go.Abs

set_option linter.unusedVariables false
set_option linter.unusedSimpArgs false
set_option maxRecDepth 8000
namespace Go.Abs
open Go.Proofs.Try
def strOps : List Oper → List UInt8
  | [] => []
  | o :: r => match o.op with
    | .index _ (.const (.string s)) _ => s.data.toList
    | _ => strOps r
def strCode : Code → List UInt8
  | .seq a b => match strCode a with | [] => strCode b | x :: r => x :: r
  | .region _ ops _ => strOps ops.toList
  | _ => []
noncomputable def boxS : List UInt8 := strCode (bodyOf f15)
noncomputable def R15 (x : Int) : Res := runF (eA []) f15 [] 100 [.int .u8 x] [] []
theorem boxS_eq : (boxS.length, boxS.map fun c => (c.toNat : Int)) = (256, BOXLaw) := by kernel_rfl
theorem R15_val {x : Int} : (R15 x).val = .int .u8 ((boxS.getD x.toNat 0).toNat : Int) := by kernel_rfl
theorem R15_tab {x : Int} : (R15 x).tab = [] := by kernel_rfl
theorem R15_cs {x : Int} : (R15 x).cs = [.leI 0 x, .leI (x + 1) boxS.length] := by kernel_rfl
def boxLaw (x : Int) : Int := BOXLaw.getD x.toNat 0
theorem boxS_get (n : Nat) : ((boxS.getD n 0).toNat : Int) = BOXLaw.getD n 0 := by
  have h2 : (boxS.map fun c => (c.toNat : Int)) = BOXLaw := (Prod.mk.inj boxS_eq).2
  rw [← h2]
  simp only [List.getD, List.getElem?_map]
  cases boxS[n]? <;> rfl
def sm15 : Summary := fun args T => match args, T with
  | [.int .u8 x], [] => ⟨[.rng 0 x 255], .int .u8 (boxLaw x), []⟩
  | _, _ => fail
theorem sm15_ok : SmOk prog (fun _ => none) 15 sm15 := by
  intro args T hc
  unfold sm15 at hc ⊢
  split at hc
  · rename_i x
    obtain ⟨h1, _⟩ := hc
    simp only [Con.h] at h1
    have hl : boxS.length = 256 := (Prod.mk.inj boxS_eq).1
    refine small_of (R := R15 x) eA0_ok hmA (f := 15) (fn := f15) (by kernel_rfl) (by kernel_rfl) FnOrc.nil rfl (OkR.of R15_cs ?_) ?_ R15_tab
    · simp only [allP, Con.h, hl, and_true]; omega
    · rw [R15_val, boxS_get]; rfl
  · exact absurd hc nofail
def S15 : Summary := callR sm15 []
theorem S15_ok : SumOk prog (fun _ => none) 15 S15 := callR_ok sm15_ok []
end Go.Abs

set_option linter.unusedVariables false
set_option linter.unusedSimpArgs false
set_option maxRecDepth 8000
namespace Go.Abs
open Go.Proofs.Try
end Go.Abs

set_option linter.unusedVariables false
set_option linter.unusedSimpArgs false
set_option maxRecDepth 8000
namespace Go.Abs
open Go.Proofs.Try
noncomputable def R66t (x : Int) : Res := runF (eA []) f66 [] 100 [.int .u8 x] [] [some true]
theorem R66t_ok {x : Int} (h : allP [.nn .u8 x, .p ((iand x 128 != 0) = true), .nn .u8 (x * 2 % 256)]) : OkR (R66t x) := OkR.dem (fl := [true, false, true, false, false, true]) (by kernel_rfl) (by kernel_rfl) (by kernel_rfl) h
theorem R66t_val {x : Int} : (R66t x).val = .int .u8 (ixor (x * 2 % 256) 27) := by kernel_rfl
theorem R66t_tab {x : Int} : (R66t x).tab = [] := by kernel_rfl
noncomputable def R66f (x : Int) : Res := runF (eA []) f66 [] 100 [.int .u8 x] [] [some false]
theorem R66f_ok {x : Int} (h : allP [.nn .u8 x, .p ((iand x 128 != 0) = false)]) : OkR (R66f x) := OkR.dem (fl := [true, false, true, false]) (by kernel_rfl) (by kernel_rfl) (by kernel_rfl) h
theorem R66f_val {x : Int} : (R66f x).val = .int .u8 (x * 2 % 256) := by kernel_rfl
theorem R66f_tab {x : Int} : (R66f x).tab = [] := by kernel_rfl
def dblLaw (x : Int) : Int := if iand x 128 ≠ 0 then ixor (x * 2 % 256) 27 else x * 2 % 256
theorem dblLaw_lt {x : Int} : 0 ≤ dblLaw x ∧ dblLaw x < 256 := by
  unfold dblLaw
  split
  · exact ixor_lt8 (by omega) (by omega)
  · omega
def sm66 : Summary := fun args T => match args, T with
  | [.int .u8 x], [] => ⟨[.rng 0 x 255], .int .u8 (dblLaw x), []⟩
  | _, _ => fail
theorem sm66_ok : SmOk prog (fun _ => none) 66 sm66 := by
  intro args T hc
  unfold sm66 at hc ⊢
  split at hc
  · rename_i x
    obtain ⟨h1, _⟩ := hc
    simp only [Con.h] at h1
    simp only
    have hx : nonneg .u8 x := by rw [nn8]; omega
    have hx2 : nonneg .u8 (x * 2 % 256) := by rw [nn8]; omega
    unfold dblLaw
    by_cases h : iand x 128 = 0
    · rw [if_neg (by simpa using h)]
      exact small_of (R := R66f x) eA0_ok hmA (f := 66) (fn := f66) (by kernel_rfl) (by kernel_rfl) FnOrc.nil rfl (R66f_ok (by simp [allP, Con.h, h, hx])) R66f_val R66f_tab
    · rw [if_pos h]
      exact small_of (R := R66t x) eA0_ok hmA (f := 66) (fn := f66) (by kernel_rfl) (by kernel_rfl) FnOrc.nil rfl (R66t_ok (by simp [allP, Con.h, h, hx, hx2])) R66t_val R66t_tab
  · exact absurd hc nofail
def S66 : Summary := callR sm66 []
theorem S66_ok : SumOk prog (fun _ => none) 66 S66 := callR_ok sm66_ok []
/-! ### newTable -/
noncomputable def eG : Env := eA [(15, S15)]
theorem eG_ok : EnvOk eG := envOf_ok tysA_ok (SumsOk.cons (fn := f15) S15_ok (by kernel_rfl) (by kernel_rfl) (by kernel_rfl) trivial)
noncomputable def A40 (i : Int) (xs : List Int) : Out := trim 1 1 [1,6] (run eG 27 ⟨1, []⟩ 100 (roundOf 0 f40) [(1, .var 0 0), (6, .int .i64 i)] [some ⟨.ints .u8 xs, 0, true, 72⟩] [some true])
theorem A40_ok {i : Int} {xs : List Int} (h : allP [.p (decide (i < 256) = true), .rng 0 (i % 256) 255, .leI 0 i, .leI (i + 1) 256, .leN (i.toNat + 1) xs.length, .leI 0 (boxLaw (i % 256)), .leI (boxLaw (i % 256) + 1) 256, .leN (256 + (boxLaw (i % 256)).toNat + 1) (xs.set i.toNat (boxLaw (i % 256))).length, .rng (-9223372036854775808) (i + 1) 9223372036854775807]) : Ok (A40 i xs) := Ok.dem (fl :=
 bitsF 32 775338368) (by kernel_rfl) (by kernel_rfl) (by kernel_rfl) h
theorem A40_ex {i : Int} {xs : List Int} : (A40 i xs).ex = .normal := by kernel_rfl
theorem A40_fm {i : Int} {xs : List Int} : (A40 i xs).fm = [(1, .var 0 0), (6, .int .i64 (i + 1))] := by kernel_rfl
theorem A40_tab {i : Int} {xs : List Int} : (A40 i xs).tab = [some ⟨.ints .u8 ((xs.set i.toNat (boxLaw (i % 256))).set (256 + (boxLaw (i % 256)).toNat) (i % 256)), 0, true, 72⟩] := by kernel_rfl
noncomputable def B40 (i : Int) (xs : List Int) : Out := trim 1 1 [1] (run eG 27 ⟨1, []⟩ 100 (roundOf 0 f40) [(1, .var 0 0), (6, .int .i64 i)] [some ⟨.ints .u8 xs, 0, true, 72⟩] [some false])
theorem B40_ok {i : Int} {xs : List Int} (h : allP [.p (decide (i < 256) = false)]) : Ok (B40 i xs) := Ok.dem (fl := [false]) (by kernel_rfl) (by kernel_rfl) (by kernel_rfl) h
theorem B40_ex {i : Int} {xs : List Int} : (B40 i xs).ex = .exit 0 := by kernel_rfl
theorem B40_fm {i : Int} {xs : List Int} : (B40 i xs).fm = [(1, .var 0 0)] := by kernel_rfl
theorem B40_tab {i : Int} {xs : List Int} : (B40 i xs).tab = [some ⟨.ints .u8 xs, 0, true, 72⟩] := by kernel_rfl
def UNBOXLaw : List Int := [82, 9, 106, 213, 48, 54, 165, 56, 191, 64, 163, 158, 129, 243, 215, 251, 124, 227, 57, 130, 155, 47, 255, 135, 52, 142, 67, 68, 196, 222, 233, 203, 84, 123, 148, 50, 166, 194, 35, 61, 238, 76, 149, 11, 66, 250, 195, 78, 8, 46, 161, 102, 40, 217, 36, 178, 118, 91, 162, 73, 109, 139, 209, 37, 114, 248, 246, 100, 134, 104, 152, 22, 212, 164, 92, 204, 93, 101, 182, 146, 108, 112, 72, 80, 253, 237, 185, 218, 94, 21, 70, 87, 167, 141, 157, 132, 144, 216, 171, 0, 140, 188, 211, 10, 247, 228, 88, 5, 184, 179, 69, 6, 208, 44, 30, 143, 202, 63, 15, 2, 193, 175, 189, 3, 1, 19, 138, 107, 58, 145, 17, 65, 79, 103, 220, 234, 151, 242, 207, 206, 240, 180, 230, 115, 150, 172, 116, 34, 231, 173, 53, 133, 226, 249, 55, 232, 28, 117, 223, 110, 71, 241, 26, 113, 29, 41, 197, 137, 111, 183, 98, 14, 170, 24, 190, 27, 252, 86, 62, 75, 198, 210, 121, 32, 154, 219, 192, 254, 120, 205, 90, 244, 31, 221, 168, 51, 136, 7, 199, 49, 177, 18, 16, 89, 39, 128, 236, 95, 96, 81, 127, 169, 25, 181, 74, 13, 45, 229, 122, 159, 147, 201, 156, 239, 160, 224, 59, 77, 174, 42, 245, 176, 200, 235, 187, 60, 131, 83, 153, 97, 23, 43, 4, 126, 186, 119, 214, 38, 225, 105, 20, 99, 85, 33, 12, 125]
def TABLaw : List Int := BOXLaw ++ UNBOXLaw
def tabLaw : Nat → List Int
  | 0 => List.replicate 512 0
  | i + 1 => ((tabLaw i).set i (boxLaw i)).set (256 + (boxLaw i).toNat) i
theorem tabLaw_len : ∀ i, (tabLaw i).length = 512
  | 0 => by simp [tabLaw]
  | i + 1 => by simp [tabLaw, tabLaw_len i]
theorem tabLaw_eq : tabLaw 256 = TABLaw := by kernel_rfl
theorem boxLaw_rng {x : Int} (h : 0 ≤ x ∧ x < 256) : 0 ≤ boxLaw x ∧ boxLaw x < 256 := by
  have : ((List.range 256).all fun i => decide (0 ≤ BOXLaw.getD i 0) && decide (BOXLaw.getD i 0 < 256)) = true := by kernel_rfl
  have := List.all_eq_true.1 this x.toNat (List.mem_range.2 (by omega))
  simpa [boxLaw] using this
def F40 (i : Nat) : Fm := [(1, .var 0 0), (6, .int .i64 i)]
theorem loop40 : To eG 27 1 (.block 0 (.loop (roundOf 0 f40))) (F40 0) [some ⟨.ints .u8 (tabLaw 0), 0, true, 72⟩] .normal [(1, .var 0 0)] [some ⟨.ints .u8 TABLaw, 0, true, 72⟩] := by
  rw [← tabLaw_eq]
  refine To.rounds F40 (fun i => [some ⟨.ints .u8 (tabLaw i), 0, true, 72⟩]) 256 (fun i hi => ?_) ?_
  · have hl := tabLaw_len i
    have hm : (i : Int) % 256 = i := by omega
    have hb := boxLaw_rng (x := i) (by omega)
    refine To.of (o := A40 i (tabLaw i)) eG_ok hmA (Nat.le_refl 1) OrcOk.nil rfl (A40_ok ?_) A40_ex A40_fm ?_
    · rw [hm]
      generalize boxLaw i = b at hb
      simp only [allP, Con.h, nonneg, Int.toNat_natCast, decide_eq_true_eq, decide_eq_false_iff_not, eq_self, true_and, and_true, Bool.true_eq, addO_eq, mulO_eq, Nat.zero_add, hl, List.length_set]
      omega
    · rw [A40_tab, hm, Int.toNat_natCast]; rfl
  · exact To.of (o := B40 (256 : Nat) (tabLaw 256)) eG_ok hmA (Nat.le_refl 1) OrcOk.nil rfl (B40_ok (by simp [allP, Con.h])) B40_ex B40_fm B40_tab
def g40 : List AVal → Tab → Out := fun vs T => match vs, T with
  | [.var 0 0, .int .i64 i], [some ⟨.ints .u8 xs, 0, true, 72⟩] => ⟨[.rng 0 i 0, .p (xs = tabLaw 0)], .normal, [(1, .var 0 0)], [some ⟨.ints .u8 TABLaw, 0, true, 72⟩], []⟩
  | _, _ => failO
theorem g40_ok : BlkOk eG f40 0 (.loop (roundOf 0 f40)) (blkS 1 [1,6] g40) := by
  refine blkS_ok fun vs T h => ?_
  unfold g40 at h ⊢
  split at h
  · rename_i i xs
    obtain ⟨h1, h2, _⟩ := h.h
    simp only [Con.h] at h1 h2
    obtain rfl : i = 0 := by omega
    subst h2
    exact loop40
  · exact absurd h nofailO
noncomputable def orc40 : OrcL := [(0, blkS 1 [1,6] g40)]
theorem orc40_ok : FnOrc eG f40 orc40 := FnOrc.cons g40_ok (by kernel_rfl) FnOrc.nil
noncomputable def R40  : Res := runF eG f40 orc40 100 [] [] []
theorem R40_ok  (h : allP [.p ([0, 0, 0, 0, 0, 0, 0, 0, 0, 0, 0, 0, 0, 0, 0, 0, 0, 0, 0, 0, 0, 0, 0, 0, 0, 0, 0, 0, 0, 0, 0, 0, 0, 0, 0, 0, 0, 0, 0, 0, 0, 0, 0, 0, 0, 0, 0, 0, 0, 0, 0, 0, 0, 0, 0, 0, 0, 0, 0, 0, 0, 0, 0, 0, 0, 0, 0, 0, 0, 0, 0, 0, 0, 0, 0, 0, 0, 0, 0, 0, 0, 0, 0, 0, 0, 0, 0, 0, 0, 0, 0, 0, 0, 0, 0, 0, 0, 0, 0, 0, 0, 0, 0, 0, 0, 0, 0, 0, 0, 0, 0, 0, 0, 0, 0, 0, 0, 0, 0, 0, 0, 0, 0,
 0, 0, 0, 0, 0, 0, 0, 0, 0, 0, 0, 0, 0, 0, 0, 0, 0, 0, 0, 0, 0, 0, 0, 0, 0, 0, 0, 0, 0, 0, 0, 0, 0, 0, 0, 0, 0, 0, 0, 0, 0, 0, 0, 0, 0, 0, 0, 0, 0, 0, 0, 0, 0, 0, 0, 0, 0, 0, 0, 0, 0, 0, 0, 0, 0, 0, 0, 0, 0, 0, 0, 0, 0, 0, 0, 0, 0, 0, 0, 0, 0, 0, 0, 0, 0, 0, 0, 0, 0, 0, 0, 0, 0, 0, 0, 0, 0, 0, 0, 0, 0, 0, 0, 0, 0, 0, 0, 0, 0, 0, 0, 0, 0, 0, 0, 0, 0, 0, 0, 0, 0, 0, 0, 0, 0, 0, 0, 0, 0, 0, 0, 0, 0, 0,
 0, 0, 0, 0, 0, 0, 0, 0, 0, 0, 0, 0, 0, 0, 0, 0, 0, 0, 0, 0, 0, 0, 0, 0, 0, 0, 0, 0, 0, 0, 0, 0, 0, 0, 0, 0, 0, 0, 0, 0, 0, 0, 0, 0, 0, 0, 0, 0, 0, 0, 0, 0, 0, 0, 0, 0, 0, 0, 0, 0, 0, 0, 0, 0, 0, 0, 0, 0, 0, 0, 0, 0, 0, 0, 0, 0, 0, 0, 0, 0, 0, 0, 0, 0, 0, 0, 0, 0, 0, 0, 0, 0, 0, 0, 0, 0, 0, 0, 0, 0, 0, 0, 0, 0, 0, 0, 0, 0, 0, 0, 0, 0, 0, 0, 0, 0, 0, 0, 0, 0, 0, 0, 0, 0, 0, 0, 0, 0, 0, 0, 0, 0, 0, 0,
 0, 0, 0, 0, 0, 0, 0, 0, 0, 0, 0, 0, 0, 0, 0, 0, 0, 0, 0, 0, 0, 0, 0, 0, 0, 0, 0, 0, 0, 0, 0, 0, 0, 0, 0, 0, 0, 0, 0, 0, 0, 0, 0, 0, 0, 0, 0, 0, 0, 0, 0, 0, 0, 0, 0, 0, 0, 0, 0, 0, 0, 0, 0, 0, 0, 0, 0, 0, 0, 0, 0, 0, 0, 0, 0, 0, 0, 0, 0, 0, 0, 0, 0, 0, 0, 0, 0, 0, 0, 0, 0, 0, 0, 0, 0, 0, 0, 0, 0, 0, 0, 0, 0, 0, 0, 0, 0, 0, 0, 0, 0, 0, 0, 0, 0, 0, 0, 0, 0, 0, 0] = tabLaw 0)]) : OkR (R40 ) := OkR.dem
 (fl := [true, false]) (by kernel_rfl) (by kernel_rfl) (by kernel_rfl) h
theorem R40_val  : (R40 ).val = .var 0 0 := by kernel_rfl
theorem R40_tab  : (R40 ).tab = [some ⟨.ints .u8 TABLaw, 0, true, 72⟩] := by kernel_rfl
def sm40 : Summary := fun args T => match args, T with
  | [], [] => ⟨[], .var 0 0, [some ⟨.ints .u8 TABLaw, 0, true, 72⟩]⟩
  | _, _ => fail
theorem sm40_ok : SmOk prog (fun _ => none) 40 sm40 := by
  intro args T hc
  unfold sm40 at hc ⊢
  split at hc
  · exact small_of (R := R40) eG_ok hmA (f := 40) (fn := f40) (by kernel_rfl) (by kernel_rfl) orc40_ok rfl (R40_ok ⟨(by show _ = _; kernel_rfl), trivial⟩) R40_val R40_tab
  · exact absurd hc nofail
def S40 : Summary := callR sm40 []
theorem S40_ok : SumOk prog (fun _ => none) 40 S40 := callR_ok sm40_ok []
end Go.Abs

set_option linter.unusedVariables false
set_option linter.unusedSimpArgs false
namespace Go.Abs
/-! ### the schedule of keys, byte by byte -/
theorem ixor_comm (a b : Int) : ixor a b = ixor b a := by simp [ixor, Nat.xor_comm]
def rcLaw : Nat → Int
  | 0 => 1
  | i + 1 => dblLaw (rcLaw i)
theorem rcLaw_lt : ∀ i, 0 ≤ rcLaw i ∧ rcLaw i < 256
  | 0 => by decide
  | i + 1 => dblLaw_lt
def knLaw (q : List Int) (j : Nat) (c : Int) : Int := ixor (q.getD j 0) (if j = 0 then ixor (boxLaw (q.getD 13 0)) c else if j < 4 then boxLaw (q.getD (12 + (j + 1) % 4) 0) else q.getD (12 + j) 0)
def kNextLaw (l : List Int) (n : Nat) : Int := knLaw (l.drop (16 * (n / 16) - 16)) (n % 16) (rcLaw (n / 16 - 1))
def kLaw (key : List Int) : Nat → List Int
  | 0 => key
  | n + 1 => kLaw key n ++ [kNextLaw (kLaw key n) (16 + n)]
/-- the first so many bytes, from 16 on -/
def ksLaw (key : List Int) (n : Nat) : List Int := kLaw key (n - 16)
theorem ksLaw_len {key : List Int} (hk : key.length = 16) {n : Nat} (h : 16 ≤ n) : (ksLaw key n).length = n := by
  have : ∀ m, (kLaw key m).length = 16 + m := fun m => by
    induction m with
    | zero => simpa [kLaw] using hk
    | succ m ih => simp [kLaw, ih]; omega
  unfold ksLaw; rw [this]; omega
theorem ksLaw_succ {key : List Int} {n : Nat} (h : 16 ≤ n) : ksLaw key (n + 1) = ksLaw key n ++ [kNextLaw (ksLaw key n) n] := by
  obtain ⟨m, rfl⟩ : ∃ m, n = 16 + m := ⟨n - 16, by omega⟩
  unfold ksLaw
  rw [show 16 + m + 1 - 16 = m + 1 by omega, show 16 + m - 16 = m by omega]
  rfl
theorem getD_drop {l : List Int} {a j : Nat} : (l.drop a).getD j 0 = l.getD (a + j) 0 := by simp [List.getD]
theorem kNextLaw_eq {l : List Int} {n : Nat} (h : 16 ≤ n) : kNextLaw l n = ixor (l.getD (n - 16) 0) (if n % 16 = 0 then ixor (boxLaw (l.getD (n - 3) 0)) (rcLaw (n / 16 - 1)) else if n % 16 < 4 then boxLaw (l.getD (16 * (n / 16) - 4 + (n % 16 + 1) % 4) 0) else l.getD (n - 4) 0) := by
  unfold kNextLaw knLaw
  simp only [getD_drop]
  rw [show 16 * (n / 16) - 16 + n % 16 = n - 16 by omega]
  by_cases h0 : n % 16 = 0
  · rw [if_pos h0, if_pos h0, show 16 * (n / 16) - 16 + 13 = n - 3 by omega]
  · rw [if_neg h0, if_neg h0]
    by_cases h4 : n % 16 < 4
    · rw [if_pos h4, if_pos h4, show 16 * (n / 16) - 16 + (12 + (n % 16 + 1) % 4) = 16 * (n / 16) - 4 + (n % 16 + 1) % 4 by omega]
    · rw [if_neg h4, if_neg h4, show 16 * (n / 16) - 16 + (12 + n % 16) = n - 4 by omega]

/-- sixteen steps -/
def stepsLaw (c : Int) (q : List Int) : Nat → List Int
  | 0 => q
  | j + 1 => stepsLaw c q j ++ [knLaw (stepsLaw c q j) j c]
theorem ks_steps {key : List Int} (hk : key.length = 16) {R : Nat} (hR : 1 ≤ R) : ∀ j, j ≤ 16 → (ksLaw key (16 * R + j)).drop (16 * R - 16) = stepsLaw (rcLaw (R - 1)) ((ksLaw key (16 * R)).drop (16 * R - 16)) j ∧ (ksLaw key (16 * R + j)).take (16 * R - 16) = (ksLaw key (16 * R)).take (16 * R - 16)
  | 0, _ => ⟨rfl, rfl⟩
  | j + 1, hj => by
    obtain ⟨h1, h2⟩ := ks_steps hk hR j (by omega)
    have hl := ksLaw_len hk (n := 16 * R + j) (by omega)
    rw [show 16 * R + (j + 1) = 16 * R + j + 1 by omega, ksLaw_succ (by omega)]
    refine ⟨?_, ?_⟩
    · rw [List.drop_append_of_le_length (by omega), h1]
      show _ = stepsLaw _ _ j ++ [knLaw (stepsLaw _ _ j) j _]
      rw [← h1]
      unfold kNextLaw
      rw [show (16 * R + j) / 16 = R by omega, show (16 * R + j) % 16 = j by omega]
    · rw [List.take_append_of_le_length (by omega), h2]
theorem stepsLaw_pre (c : Int) (q : List Int) : ∀ j, ∃ s, stepsLaw c q j = q ++ s ∧ s.length = j
  | 0 => ⟨[], by simp [stepsLaw], rfl⟩
  | j + 1 => by
    obtain ⟨s, h, hl⟩ := stepsLaw_pre c q j
    exact ⟨s ++ [knLaw (stepsLaw c q j) j c], by rw [stepsLaw, h, List.append_assoc], by simp [hl]⟩
def nextLaw (q : List Int) (c : Int) : List Int := (stepsLaw c q 16).drop 16
theorem ks_next {key : List Int} (hk : key.length = 16) {R : Nat} (hR : 1 ≤ R) : ksLaw key (16 * R + 16) = ksLaw key (16 * R) ++ nextLaw ((ksLaw key (16 * R)).drop (16 * R - 16)) (rcLaw (R - 1)) := by
  obtain ⟨h1, h2⟩ := ks_steps hk hR 16 (Nat.le_refl _)
  have hl := ksLaw_len hk (n := 16 * R) (by omega)
  obtain ⟨s, hs, hsl⟩ := stepsLaw_pre (rcLaw (R - 1)) ((ksLaw key (16 * R)).drop (16 * R - 16)) 16
  have hq : ((ksLaw key (16 * R)).drop (16 * R - 16)).length = 16 := by simp [hl]; omega
  rw [← List.take_append_drop (16 * R - 16) (ksLaw key (16 * R + 16)), h1, h2, hs, ← List.append_assoc, List.take_append_drop]
  unfold nextLaw
  rw [hs, List.drop_append_of_le_length (by omega), List.drop_of_length_le (by omega)]
  simp
theorem set_zeros {l : List Int} {v : Int} {m : Nat} : (l ++ List.replicate (m + 1) 0).set l.length v = (l ++ [v]) ++ List.replicate m 0 := by
  rw [List.set_append, if_neg (by omega)]
  simp [List.replicate_succ]
def Bytes (l : List Int) : Prop := ∀ i, i < l.length → 0 ≤ l.getD i 0 ∧ l.getD i 0 < 256
theorem Bytes.get {l : List Int} (h : Bytes l) (i : Nat) : 0 ≤ l.getD i 0 ∧ l.getD i 0 < 256 := by
  rcases Nat.lt_or_ge i l.length with hi | hi
  · exact h i hi
  · rw [List.getD_eq_getElem?_getD, List.getElem?_eq_none hi]; decide
theorem Bytes.append {a b : List Int} (ha : Bytes a) (hb : Bytes b) : Bytes (a ++ b) := by
  intro i _
  rcases Nat.lt_or_ge i a.length with hi | hi
  · rw [List.getD_eq_getElem?_getD, List.getElem?_append_left hi, ← List.getD_eq_getElem?_getD]; exact ha.get i
  · rw [List.getD_eq_getElem?_getD, List.getElem?_append_right hi, ← List.getD_eq_getElem?_getD]; exact hb.get _
theorem Bytes.one {x : Int} (h : 0 ≤ x ∧ x < 256) : Bytes [x] := by
  intro i hi
  match i, hi with
  | 0, _ => exact h
theorem Bytes.drop {l : List Int} (h : Bytes l) (n : Nat) : Bytes (l.drop n) := fun i _ => by rw [getD_drop]; exact h.get _
theorem Bytes.take {l : List Int} (h : Bytes l) (n : Nat) : Bytes (l.take n) := fun i hi => by
  have : i < n := by simp at hi; omega
  rw [List.getD_eq_getElem?_getD, List.getElem?_take, if_pos this, ← List.getD_eq_getElem?_getD]; exact h.get _
theorem knLaw_rng {q : List Int} (hq : Bytes q) {j : Nat} {c : Int} (hc : 0 ≤ c ∧ c < 256) : 0 ≤ knLaw q j c ∧ knLaw q j c < 256 := by
  unfold knLaw
  refine ixor_lt8 (hq.get _) ?_
  split
  · exact ixor_lt8 (boxLaw_rng (hq.get _)) hc
  · split
    · exact boxLaw_rng (hq.get _)
    · exact hq.get _
theorem ksLaw_bytes {key : List Int} (hk : Bytes key) : ∀ n, Bytes (ksLaw key n) := by
  have : ∀ m, Bytes (kLaw key m) := fun m => by
    induction m with
    | zero => exact hk
    | succ m ih => exact ih.append (.one (knLaw_rng (ih.drop _) (rcLaw_lt _)))
  exact fun n => this _
theorem tab_box {x : Int} (h : 0 ≤ x ∧ x < 256) : TABLaw.getD x.toNat 0 = boxLaw x := by
  unfold TABLaw boxLaw
  rw [List.getD_eq_getElem?_getD, List.getElem?_append_left (by rw [show BOXLaw.length = 256 by kernel_rfl]; omega), List.getD_eq_getElem?_getD]
theorem TABLaw_len : TABLaw.length = 512 := by kernel_rfl
def setsLaw (xs : List Int) (n : Nat) : List Int → List Int
  | [] => xs
  | v :: vs => setsLaw (xs.set n v) (n + 1) vs
theorem setsLaw_zeros : ∀ {vs l : List Int} {m : Nat}, vs.length ≤ m → setsLaw (l ++ List.replicate m 0) l.length vs = l ++ vs ++ List.replicate (m - vs.length) 0
  | [], l, m, _ => by simp [setsLaw]
  | v :: vs, l, m, h => by
    obtain ⟨k, rfl⟩ : ∃ k, m = k + 1 := ⟨m - 1, by simp at h; omega⟩
    rw [setsLaw, set_zeros]
    have := setsLaw_zeros (vs := vs) (l := l ++ [v]) (m := k) (by simpa using h)
    rw [List.length_append] at this
    rw [show l.length + 1 = l.length + [v].length from rfl, this]
    simp
/-- the same, the other way round -/
def knXLaw (q : List Int) (j : Nat) (c : Int) : Int := ixor (if j = 0 then ixor (boxLaw (q.getD 13 0)) c else if j < 4 then boxLaw (q.getD (12 + (j + 1) % 4) 0) else q.getD (12 + j) 0) (q.getD j 0)
def stepsXLaw (c : Int) (q : List Int) : Nat → List Int
  | 0 => q
  | j + 1 => stepsXLaw c q j ++ [knXLaw (stepsXLaw c q j) j c]
theorem stepsX_eq (c : Int) (q : List Int) : ∀ j, stepsXLaw c q j = stepsLaw c q j
  | 0 => rfl
  | j + 1 => by
    rw [stepsXLaw, stepsLaw, stepsX_eq c q j]
    unfold knXLaw knLaw
    rw [ixor_comm]
theorem list16 {l : List Int} (h : l.length = 16) : ∃ a0 a1 a2 a3 a4 a5 a6 a7 a8 a9 a10 a11 a12 a13 a14 a15, l = [a0, a1, a2, a3, a4, a5, a6, a7, a8, a9, a10, a11, a12, a13, a14, a15] := by
  match l, h with
  | [a0, a1, a2, a3, a4, a5, a6, a7, a8, a9, a10, a11, a12, a13, a14, a15], _ => exact ⟨a0, a1, a2, a3, a4, a5, a6, a7, a8, a9, a10, a11, a12, a13, a14, a15, rfl⟩
end Go.Abs

set_option linter.unusedVariables false
set_option linter.unusedSimpArgs false
set_option maxRecDepth 8000
namespace Go.Abs
open Go.Proofs.Try
/-! ### keys, of the program -/
noncomputable def eH : Env := eA [(66, S66)]
theorem eH_ok : EnvOk eH := envOf_ok tysA_ok (SumsOk.cons (fn := f66) S66_ok (by kernel_rfl) (by kernel_rfl) (by kernel_rfl) trivial)
noncomputable def A41 (r c : Int) (xs zz ks tb : List Int) (g g' : Nat) (ow ow' : Bool) : Out := trim 4 4 [0,4,5,6,7] (run eH 81 ⟨4, []⟩ 400 (roundOf 0 f41) [(0, .var 0 g), (4, .var 2 0), (5, .var 3 0), (6, .int .u8 c), (7, .int .i64 r)] [some ⟨.ints .u8 tb, g, ow, 72⟩, some ⟨.ints .u8 ks, g', ow', 5⟩, some ⟨.ints .u8 zz, 0, true, 49⟩, some ⟨.ints .u8 xs, 0, true, 49⟩] [some true])
theorem A41_ok {r c : Int} {xs zz ks tb : List Int} {g g' : Nat} {ow ow' : Bool} (h : allP [.p (decide (r < 11) = true), .rng (-9223372036854775808) (r - 1) 9223372036854775807, .leI 0 (r - 1), .leI (r - 1 + 1) 11, .leN ((r - 1).toNat * 16 + 16) xs.length, .leI 0 r, .leI (r + 1) 11, .leI 0 r, .leI (r + 1) 11, .eqN (List.take 16 (dropO ((r - 1).toNat * 16) xs)).length 16, .leN 14 (List.take 16
 (dropO ((r - 1).toNat * 16) xs)).length, .eqN g g, .eqN g g, .leI 0 ((List.take 16 (dropO ((r - 1).toNat * 16) xs)).getD 13 0), .leI ((List.take 16 (dropO ((r - 1).toNat * 16) xs)).getD 13 0 + 1) 256, .eqN g g, .eqN g g, .leN (((List.take 16 (dropO ((r - 1).toNat * 16) xs)).getD 13 0).toNat + 1) tb.length, .nn .u8 (tb.getD ((List.take 16 (dropO ((r - 1).toNat * 16) xs)).getD 13 0).toNat 0), .nn .u8
 c, .leN 15 (List.take 16 (dropO ((r - 1).toNat * 16) xs)).length, .eqN g g, .eqN g g, .leI 0 ((List.take 16 (dropO ((r - 1).toNat * 16) xs)).getD 14 0), .leI ((List.take 16 (dropO ((r - 1).toNat * 16) xs)).getD 14 0 + 1) 256, .eqN g g, .eqN g g, .leN (((List.take 16 (dropO ((r - 1).toNat * 16) xs)).getD 14 0).toNat + 1) tb.length, .leN 16 (List.take 16 (dropO ((r - 1).toNat * 16) xs)).length, .eqN
 g g, .eqN g g, .leI 0 ((List.take 16 (dropO ((r - 1).toNat * 16) xs)).getD 15 0), .leI ((List.take 16 (dropO ((r - 1).toNat * 16) xs)).getD 15 0 + 1) 256, .eqN g g, .eqN g g, .leN (((List.take 16 (dropO ((r - 1).toNat * 16) xs)).getD 15 0).toNat + 1) tb.length, .leN 13 (List.take 16 (dropO ((r - 1).toNat * 16) xs)).length, .eqN g g, .eqN g g, .leI 0 ((List.take 16 (dropO ((r - 1).toNat * 16)
 xs)).getD 12 0), .leI ((List.take 16 (dropO ((r - 1).toNat * 16) xs)).getD 12 0 + 1) 256, .eqN g g, .eqN g g, .leN (((List.take 16 (dropO ((r - 1).toNat * 16) xs)).getD 12 0).toNat + 1) tb.length, .rng 0 c 255, .leN 1 (List.take 16 (dropO ((r - 1).toNat * 16) xs)).length, .nn .u8 (ixor (tb.getD ((List.take 16 (dropO ((r - 1).toNat * 16) xs)).getD 13 0).toNat 0) c), .nn .u8 ((List.take 16 (dropO ((r
 - 1).toNat * 16) xs)).getD 0 0), .leN (addO (r.toNat * 16) 0 + 1) xs.length, .leN 2 (List.take 16 (dropO ((r - 1).toNat * 16) xs)).length, .nn .u8 (tb.getD ((List.take 16 (dropO ((r - 1).toNat * 16) xs)).getD 14 0).toNat 0), .nn .u8 ((List.take 16 (dropO ((r - 1).toNat * 16) xs)).getD 1 0), .leN (addO (r.toNat * 16) 1 + 1) (xs.set (addO (r.toNat * 16) 0) (ixor (ixor (tb.getD ((List.take 16 (dropO
 ((r - 1).toNat * 16) xs)).getD 13 0).toNat 0) c) ((List.take 16 (dropO ((r - 1).toNat * 16) xs)).getD 0 0))).length, .leN 3 (List.take 16 (dropO ((r - 1).toNat * 16) xs)).length, .nn .u8 (tb.getD ((List.take 16 (dropO ((r - 1).toNat * 16) xs)).getD 15 0).toNat 0), .nn .u8 ((List.take 16 (dropO ((r - 1).toNat * 16) xs)).getD 2 0), .leN (addO (r.toNat * 16) 2 + 1) ((xs.set (addO (r.toNat * 16) 0)
 (ixor (ixor (tb.getD ((List.take 16 (dropO ((r - 1).toNat * 16) xs)).getD 13 0).toNat 0) c) ((List.take 16 (dropO ((r - 1).toNat * 16) xs)).getD 0 0))).set (addO (r.toNat * 16) 1) (ixor (tb.getD ((List.take 16 (dropO ((r - 1).toNat * 16) xs)).getD 14 0).toNat 0) ((List.take 16 (dropO ((r - 1).toNat * 16) xs)).getD 1 0))).length, .leN 4 (List.take 16 (dropO ((r - 1).toNat * 16) xs)).length, .nn .u8
 (tb.getD ((List.take 16 (dropO ((r - 1).toNat * 16) xs)).getD 12 0).toNat 0), .nn .u8 ((List.take 16 (dropO ((r - 1).toNat * 16) xs)).getD 3 0), .leN (addO (r.toNat * 16) 3 + 1) (((xs.set (addO (r.toNat * 16) 0) (ixor (ixor (tb.getD ((List.take 16 (dropO ((r - 1).toNat * 16) xs)).getD 13 0).toNat 0) c) ((List.take 16 (dropO ((r - 1).toNat * 16) xs)).getD 0 0))).set (addO (r.toNat * 16) 1) (ixor
 (tb.getD ((List.take 16 (dropO ((r - 1).toNat * 16) xs)).getD 14 0).toNat 0) ((List.take 16 (dropO ((r - 1).toNat * 16) xs)).getD 1 0))).set (addO (r.toNat * 16) 2) (ixor (tb.getD ((List.take 16 (dropO ((r - 1).toNat * 16) xs)).getD 15 0).toNat 0) ((List.take 16 (dropO ((r - 1).toNat * 16) xs)).getD 2 0))).length, .leN 5 (List.take 16 (dropO ((r - 1).toNat * 16) xs)).length, .nn .u8 (ixor (ixor
 (tb.getD ((List.take 16 (dropO ((r - 1).toNat * 16) xs)).getD 13 0).toNat 0) c) ((List.take 16 (dropO ((r - 1).toNat * 16) xs)).getD 0 0)), .nn .u8 ((List.take 16 (dropO ((r - 1).toNat * 16) xs)).getD 4 0), .leN (addO (r.toNat * 16) 4 + 1) ((((xs.set (addO (r.toNat * 16) 0) (ixor (ixor (tb.getD ((List.take 16 (dropO ((r - 1).toNat * 16) xs)).getD 13 0).toNat 0) c) ((List.take 16 (dropO ((r -
 1).toNat * 16) xs)).getD 0 0))).set (addO (r.toNat * 16) 1) (ixor (tb.getD ((List.take 16 (dropO ((r - 1).toNat * 16) xs)).getD 14 0).toNat 0) ((List.take 16 (dropO ((r - 1).toNat * 16) xs)).getD 1 0))).set (addO (r.toNat * 16) 2) (ixor (tb.getD ((List.take 16 (dropO ((r - 1).toNat * 16) xs)).getD 15 0).toNat 0) ((List.take 16 (dropO ((r - 1).toNat * 16) xs)).getD 2 0))).set (addO (r.toNat * 16) 3)
 (ixor (tb.getD ((List.take 16 (dropO ((r - 1).toNat * 16) xs)).getD 12 0).toNat 0) ((List.take 16 (dropO ((r - 1).toNat * 16) xs)).getD 3 0))).length, .leN 6 (List.take 16 (dropO ((r - 1).toNat * 16) xs)).length, .nn .u8 (ixor (tb.getD ((List.take 16 (dropO ((r - 1).toNat * 16) xs)).getD 14 0).toNat 0) ((List.take 16 (dropO ((r - 1).toNat * 16) xs)).getD 1 0)), .nn .u8 ((List.take 16 (dropO ((r -
 1).toNat * 16) xs)).getD 5 0), .leN (addO (r.toNat * 16) 5 + 1) (((((xs.set (addO (r.toNat * 16) 0) (ixor (ixor (tb.getD ((List.take 16 (dropO ((r - 1).toNat * 16) xs)).getD 13 0).toNat 0) c) ((List.take 16 (dropO ((r - 1).toNat * 16) xs)).getD 0 0))).set (addO (r.toNat * 16) 1) (ixor (tb.getD ((List.take 16 (dropO ((r - 1).toNat * 16) xs)).getD 14 0).toNat 0) ((List.take 16 (dropO ((r - 1).toNat *
 16) xs)).getD 1 0))).set (addO (r.toNat * 16) 2) (ixor (tb.getD ((List.take 16 (dropO ((r - 1).toNat * 16) xs)).getD 15 0).toNat 0) ((List.take 16 (dropO ((r - 1).toNat * 16) xs)).getD 2 0))).set (addO (r.toNat * 16) 3) (ixor (tb.getD ((List.take 16 (dropO ((r - 1).toNat * 16) xs)).getD 12 0).toNat 0) ((List.take 16 (dropO ((r - 1).toNat * 16) xs)).getD 3 0))).set (addO (r.toNat * 16) 4) (ixor
 (ixor (ixor (tb.getD ((List.take 16 (dropO ((r - 1).toNat * 16) xs)).getD 13 0).toNat 0) c) ((List.take 16 (dropO ((r - 1).toNat * 16) xs)).getD 0 0)) ((List.take 16 (dropO ((r - 1).toNat * 16) xs)).getD 4 0))).length, .leN 7 (List.take 16 (dropO ((r - 1).toNat * 16) xs)).length, .nn .u8 (ixor (tb.getD ((List.take 16 (dropO ((r - 1).toNat * 16) xs)).getD 15 0).toNat 0) ((List.take 16 (dropO ((r -
 1).toNat * 16) xs)).getD 2 0)), .nn .u8 ((List.take 16 (dropO ((r - 1).toNat * 16) xs)).getD 6 0), .leN (addO (r.toNat * 16) 6 + 1) ((((((xs.set (addO (r.toNat * 16) 0) (ixor (ixor (tb.getD ((List.take 16 (dropO ((r - 1).toNat * 16) xs)).getD 13 0).toNat 0) c) ((List.take 16 (dropO ((r - 1).toNat * 16) xs)).getD 0 0))).set (addO (r.toNat * 16) 1) (ixor (tb.getD ((List.take 16 (dropO ((r - 1).toNat
 * 16) xs)).getD 14 0).toNat 0) ((List.take 16 (dropO ((r - 1).toNat * 16) xs)).getD 1 0))).set (addO (r.toNat * 16) 2) (ixor (tb.getD ((List.take 16 (dropO ((r - 1).toNat * 16) xs)).getD 15 0).toNat 0) ((List.take 16 (dropO ((r - 1).toNat * 16) xs)).getD 2 0))).set (addO (r.toNat * 16) 3) (ixor (tb.getD ((List.take 16 (dropO ((r - 1).toNat * 16) xs)).getD 12 0).toNat 0) ((List.take 16 (dropO ((r -
 1).toNat * 16) xs)).getD 3 0))).set (addO (r.toNat * 16) 4) (ixor (ixor (ixor (tb.getD ((List.take 16 (dropO ((r - 1).toNat * 16) xs)).getD 13 0).toNat 0) c) ((List.take 16 (dropO ((r - 1).toNat * 16) xs)).getD 0 0)) ((List.take 16 (dropO ((r - 1).toNat * 16) xs)).getD 4 0))).set (addO (r.toNat * 16) 5) (ixor (ixor (tb.getD ((List.take 16 (dropO ((r - 1).toNat * 16) xs)).getD 14 0).toNat 0)
 ((List.take 16 (dropO ((r - 1).toNat * 16) xs)).getD 1 0)) ((List.take 16 (dropO ((r - 1).toNat * 16) xs)).getD 5 0))).length, .leN 8 (List.take 16 (dropO ((r - 1).toNat * 16) xs)).length, .nn .u8 (ixor (tb.getD ((List.take 16 (dropO ((r - 1).toNat * 16) xs)).getD 12 0).toNat 0) ((List.take 16 (dropO ((r - 1).toNat * 16) xs)).getD 3 0)), .nn .u8 ((List.take 16 (dropO ((r - 1).toNat * 16) xs)).getD
 7 0), .leN (addO (r.toNat * 16) 7 + 1) (((((((xs.set (addO (r.toNat * 16) 0) (ixor (ixor (tb.getD ((List.take 16 (dropO ((r - 1).toNat * 16) xs)).getD 13 0).toNat 0) c) ((List.take 16 (dropO ((r - 1).toNat * 16) xs)).getD 0 0))).set (addO (r.toNat * 16) 1) (ixor (tb.getD ((List.take 16 (dropO ((r - 1).toNat * 16) xs)).getD 14 0).toNat 0) ((List.take 16 (dropO ((r - 1).toNat * 16) xs)).getD 1
 0))).set (addO (r.toNat * 16) 2) (ixor (tb.getD ((List.take 16 (dropO ((r - 1).toNat * 16) xs)).getD 15 0).toNat 0) ((List.take 16 (dropO ((r - 1).toNat * 16) xs)).getD 2 0))).set (addO (r.toNat * 16) 3) (ixor (tb.getD ((List.take 16 (dropO ((r - 1).toNat * 16) xs)).getD 12 0).toNat 0) ((List.take 16 (dropO ((r - 1).toNat * 16) xs)).getD 3 0))).set (addO (r.toNat * 16) 4) (ixor (ixor (ixor (tb.getD
 ((List.take 16 (dropO ((r - 1).toNat * 16) xs)).getD 13 0).toNat 0) c) ((List.take 16 (dropO ((r - 1).toNat * 16) xs)).getD 0 0)) ((List.take 16 (dropO ((r - 1).toNat * 16) xs)).getD 4 0))).set (addO (r.toNat * 16) 5) (ixor (ixor (tb.getD ((List.take 16 (dropO ((r - 1).toNat * 16) xs)).getD 14 0).toNat 0) ((List.take 16 (dropO ((r - 1).toNat * 16) xs)).getD 1 0)) ((List.take 16 (dropO ((r -
 1).toNat * 16) xs)).getD 5 0))).set (addO (r.toNat * 16) 6) (ixor (ixor (tb.getD ((List.take 16 (dropO ((r - 1).toNat * 16) xs)).getD 15 0).toNat 0) ((List.take 16 (dropO ((r - 1).toNat * 16) xs)).getD 2 0)) ((List.take 16 (dropO ((r - 1).toNat * 16) xs)).getD 6 0))).length, .leN 9 (List.take 16 (dropO ((r - 1).toNat * 16) xs)).length, .nn .u8 (ixor (ixor (ixor (tb.getD ((List.take 16 (dropO ((r -
 1).toNat * 16) xs)).getD 13 0).toNat 0) c) ((List.take 16 (dropO ((r - 1).toNat * 16) xs)).getD 0 0)) ((List.take 16 (dropO ((r - 1).toNat * 16) xs)).getD 4 0)), .nn .u8 ((List.take 16 (dropO ((r - 1).toNat * 16) xs)).getD 8 0), .leN (addO (r.toNat * 16) 8 + 1) ((((((((xs.set (addO (r.toNat * 16) 0) (ixor (ixor (tb.getD ((List.take 16 (dropO ((r - 1).toNat * 16) xs)).getD 13 0).toNat 0) c)
 ((List.take 16 (dropO ((r - 1).toNat * 16) xs)).getD 0 0))).set (addO (r.toNat * 16) 1) (ixor (tb.getD ((List.take 16 (dropO ((r - 1).toNat * 16) xs)).getD 14 0).toNat 0) ((List.take 16 (dropO ((r - 1).toNat * 16) xs)).getD 1 0))).set (addO (r.toNat * 16) 2) (ixor (tb.getD ((List.take 16 (dropO ((r - 1).toNat * 16) xs)).getD 15 0).toNat 0) ((List.take 16 (dropO ((r - 1).toNat * 16) xs)).getD 2
 0))).set (addO (r.toNat * 16) 3) (ixor (tb.getD ((List.take 16 (dropO ((r - 1).toNat * 16) xs)).getD 12 0).toNat 0) ((List.take 16 (dropO ((r - 1).toNat * 16) xs)).getD 3 0))).set (addO (r.toNat * 16) 4) (ixor (ixor (ixor (tb.getD ((List.take 16 (dropO ((r - 1).toNat * 16) xs)).getD 13 0).toNat 0) c) ((List.take 16 (dropO ((r - 1).toNat * 16) xs)).getD 0 0)) ((List.take 16 (dropO ((r - 1).toNat *
 16) xs)).getD 4 0))).set (addO (r.toNat * 16) 5) (ixor (ixor (tb.getD ((List.take 16 (dropO ((r - 1).toNat * 16) xs)).getD 14 0).toNat 0) ((List.take 16 (dropO ((r - 1).toNat * 16) xs)).getD 1 0)) ((List.take 16 (dropO ((r - 1).toNat * 16) xs)).getD 5 0))).set (addO (r.toNat * 16) 6) (ixor (ixor (tb.getD ((List.take 16 (dropO ((r - 1).toNat * 16) xs)).getD 15 0).toNat 0) ((List.take 16 (dropO ((r -
 1).toNat * 16) xs)).getD 2 0)) ((List.take 16 (dropO ((r - 1).toNat * 16) xs)).getD 6 0))).set (addO (r.toNat * 16) 7) (ixor (ixor (tb.getD ((List.take 16 (dropO ((r - 1).toNat * 16) xs)).getD 12 0).toNat 0) ((List.take 16 (dropO ((r - 1).toNat * 16) xs)).getD 3 0)) ((List.take 16 (dropO ((r - 1).toNat * 16) xs)).getD 7 0))).length, .leN 10 (List.take 16 (dropO ((r - 1).toNat * 16) xs)).length, .nn
 .u8 (ixor (ixor (tb.getD ((List.take 16 (dropO ((r - 1).toNat * 16) xs)).getD 14 0).toNat 0) ((List.take 16 (dropO ((r - 1).toNat * 16) xs)).getD 1 0)) ((List.take 16 (dropO ((r - 1).toNat * 16) xs)).getD 5 0)), .nn .u8 ((List.take 16 (dropO ((r - 1).toNat * 16) xs)).getD 9 0), .leN (addO (r.toNat * 16) 9 + 1) (((((((((xs.set (addO (r.toNat * 16) 0) (ixor (ixor (tb.getD ((List.take 16 (dropO ((r -
 1).toNat * 16) xs)).getD 13 0).toNat 0) c) ((List.take 16 (dropO ((r - 1).toNat * 16) xs)).getD 0 0))).set (addO (r.toNat * 16) 1) (ixor (tb.getD ((List.take 16 (dropO ((r - 1).toNat * 16) xs)).getD 14 0).toNat 0) ((List.take 16 (dropO ((r - 1).toNat * 16) xs)).getD 1 0))).set (addO (r.toNat * 16) 2) (ixor (tb.getD ((List.take 16 (dropO ((r - 1).toNat * 16) xs)).getD 15 0).toNat 0) ((List.take 16
 (dropO ((r - 1).toNat * 16) xs)).getD 2 0))).set (addO (r.toNat * 16) 3) (ixor (tb.getD ((List.take 16 (dropO ((r - 1).toNat * 16) xs)).getD 12 0).toNat 0) ((List.take 16 (dropO ((r - 1).toNat * 16) xs)).getD 3 0))).set (addO (r.toNat * 16) 4) (ixor (ixor (ixor (tb.getD ((List.take 16 (dropO ((r - 1).toNat * 16) xs)).getD 13 0).toNat 0) c) ((List.take 16 (dropO ((r - 1).toNat * 16) xs)).getD 0 0))
 ((List.take 16 (dropO ((r - 1).toNat * 16) xs)).getD 4 0))).set (addO (r.toNat * 16) 5) (ixor (ixor (tb.getD ((List.take 16 (dropO ((r - 1).toNat * 16) xs)).getD 14 0).toNat 0) ((List.take 16 (dropO ((r - 1).toNat * 16) xs)).getD 1 0)) ((List.take 16 (dropO ((r - 1).toNat * 16) xs)).getD 5 0))).set (addO (r.toNat * 16) 6) (ixor (ixor (tb.getD ((List.take 16 (dropO ((r - 1).toNat * 16) xs)).getD 15
 0).toNat 0) ((List.take 16 (dropO ((r - 1).toNat * 16) xs)).getD 2 0)) ((List.take 16 (dropO ((r - 1).toNat * 16) xs)).getD 6 0))).set (addO (r.toNat * 16) 7) (ixor (ixor (tb.getD ((List.take 16 (dropO ((r - 1).toNat * 16) xs)).getD 12 0).toNat 0) ((List.take 16 (dropO ((r - 1).toNat * 16) xs)).getD 3 0)) ((List.take 16 (dropO ((r - 1).toNat * 16) xs)).getD 7 0))).set (addO (r.toNat * 16) 8) (ixor
 (ixor (ixor (ixor (tb.getD ((List.take 16 (dropO ((r - 1).toNat * 16) xs)).getD 13 0).toNat 0) c) ((List.take 16 (dropO ((r - 1).toNat * 16) xs)).getD 0 0)) ((List.take 16 (dropO ((r - 1).toNat * 16) xs)).getD 4 0)) ((List.take 16 (dropO ((r - 1).toNat * 16) xs)).getD 8 0))).length, .leN 11 (List.take 16 (dropO ((r - 1).toNat * 16) xs)).length, .nn .u8 (ixor (ixor (tb.getD ((List.take 16 (dropO ((r
 - 1).toNat * 16) xs)).getD 15 0).toNat 0) ((List.take 16 (dropO ((r - 1).toNat * 16) xs)).getD 2 0)) ((List.take 16 (dropO ((r - 1).toNat * 16) xs)).getD 6 0)), .nn .u8 ((List.take 16 (dropO ((r - 1).toNat * 16) xs)).getD 10 0), .leN (addO (r.toNat * 16) 10 + 1) ((((((((((xs.set (addO (r.toNat * 16) 0) (ixor (ixor (tb.getD ((List.take 16 (dropO ((r - 1).toNat * 16) xs)).getD 13 0).toNat 0) c)
 ((List.take 16 (dropO ((r - 1).toNat * 16) xs)).getD 0 0))).set (addO (r.toNat * 16) 1) (ixor (tb.getD ((List.take 16 (dropO ((r - 1).toNat * 16) xs)).getD 14 0).toNat 0) ((List.take 16 (dropO ((r - 1).toNat * 16) xs)).getD 1 0))).set (addO (r.toNat * 16) 2) (ixor (tb.getD ((List.take 16 (dropO ((r - 1).toNat * 16) xs)).getD 15 0).toNat 0) ((List.take 16 (dropO ((r - 1).toNat * 16) xs)).getD 2
 0))).set (addO (r.toNat * 16) 3) (ixor (tb.getD ((List.take 16 (dropO ((r - 1).toNat * 16) xs)).getD 12 0).toNat 0) ((List.take 16 (dropO ((r - 1).toNat * 16) xs)).getD 3 0))).set (addO (r.toNat * 16) 4) (ixor (ixor (ixor (tb.getD ((List.take 16 (dropO ((r - 1).toNat * 16) xs)).getD 13 0).toNat 0) c) ((List.take 16 (dropO ((r - 1).toNat * 16) xs)).getD 0 0)) ((List.take 16 (dropO ((r - 1).toNat *
 16) xs)).getD 4 0))).set (addO (r.toNat * 16) 5) (ixor (ixor (tb.getD ((List.take 16 (dropO ((r - 1).toNat * 16) xs)).getD 14 0).toNat 0) ((List.take 16 (dropO ((r - 1).toNat * 16) xs)).getD 1 0)) ((List.take 16 (dropO ((r - 1).toNat * 16) xs)).getD 5 0))).set (addO (r.toNat * 16) 6) (ixor (ixor (tb.getD ((List.take 16 (dropO ((r - 1).toNat * 16) xs)).getD 15 0).toNat 0) ((List.take 16 (dropO ((r -
 1).toNat * 16) xs)).getD 2 0)) ((List.take 16 (dropO ((r - 1).toNat * 16) xs)).getD 6 0))).set (addO (r.toNat * 16) 7) (ixor (ixor (tb.getD ((List.take 16 (dropO ((r - 1).toNat * 16) xs)).getD 12 0).toNat 0) ((List.take 16 (dropO ((r - 1).toNat * 16) xs)).getD 3 0)) ((List.take 16 (dropO ((r - 1).toNat * 16) xs)).getD 7 0))).set (addO (r.toNat * 16) 8) (ixor (ixor (ixor (ixor (tb.getD ((List.take
 16 (dropO ((r - 1).toNat * 16) xs)).getD 13 0).toNat 0) c) ((List.take 16 (dropO ((r - 1).toNat * 16) xs)).getD 0 0)) ((List.take 16 (dropO ((r - 1).toNat * 16) xs)).getD 4 0)) ((List.take 16 (dropO ((r - 1).toNat * 16) xs)).getD 8 0))).set (addO (r.toNat * 16) 9) (ixor (ixor (ixor (tb.getD ((List.take 16 (dropO ((r - 1).toNat * 16) xs)).getD 14 0).toNat 0) ((List.take 16 (dropO ((r - 1).toNat *
 16) xs)).getD 1 0)) ((List.take 16 (dropO ((r - 1).toNat * 16) xs)).getD 5 0)) ((List.take 16 (dropO ((r - 1).toNat * 16) xs)).getD 9 0))).length, .leN 12 (List.take 16 (dropO ((r - 1).toNat * 16) xs)).length, .nn .u8 (ixor (ixor (tb.getD ((List.take 16 (dropO ((r - 1).toNat * 16) xs)).getD 12 0).toNat 0) ((List.take 16 (dropO ((r - 1).toNat * 16) xs)).getD 3 0)) ((List.take 16 (dropO ((r -
 1).toNat * 16) xs)).getD 7 0)), .nn .u8 ((List.take 16 (dropO ((r - 1).toNat * 16) xs)).getD 11 0), .leN (addO (r.toNat * 16) 11 + 1) (((((((((((xs.set (addO (r.toNat * 16) 0) (ixor (ixor (tb.getD ((List.take 16 (dropO ((r - 1).toNat * 16) xs)).getD 13 0).toNat 0) c) ((List.take 16 (dropO ((r - 1).toNat * 16) xs)).getD 0 0))).set (addO (r.toNat * 16) 1) (ixor (tb.getD ((List.take 16 (dropO ((r -
 1).toNat * 16) xs)).getD 14 0).toNat 0) ((List.take 16 (dropO ((r - 1).toNat * 16) xs)).getD 1 0))).set (addO (r.toNat * 16) 2) (ixor (tb.getD ((List.take 16 (dropO ((r - 1).toNat * 16) xs)).getD 15 0).toNat 0) ((List.take 16 (dropO ((r - 1).toNat * 16) xs)).getD 2 0))).set (addO (r.toNat * 16) 3) (ixor (tb.getD ((List.take 16 (dropO ((r - 1).toNat * 16) xs)).getD 12 0).toNat 0) ((List.take 16
 (dropO ((r - 1).toNat * 16) xs)).getD 3 0))).set (addO (r.toNat * 16) 4) (ixor (ixor (ixor (tb.getD ((List.take 16 (dropO ((r - 1).toNat * 16) xs)).getD 13 0).toNat 0) c) ((List.take 16 (dropO ((r - 1).toNat * 16) xs)).getD 0 0)) ((List.take 16 (dropO ((r - 1).toNat * 16) xs)).getD 4 0))).set (addO (r.toNat * 16) 5) (ixor (ixor (tb.getD ((List.take 16 (dropO ((r - 1).toNat * 16) xs)).getD 14
 0).toNat 0) ((List.take 16 (dropO ((r - 1).toNat * 16) xs)).getD 1 0)) ((List.take 16 (dropO ((r - 1).toNat * 16) xs)).getD 5 0))).set (addO (r.toNat * 16) 6) (ixor (ixor (tb.getD ((List.take 16 (dropO ((r - 1).toNat * 16) xs)).getD 15 0).toNat 0) ((List.take 16 (dropO ((r - 1).toNat * 16) xs)).getD 2 0)) ((List.take 16 (dropO ((r - 1).toNat * 16) xs)).getD 6 0))).set (addO (r.toNat * 16) 7) (ixor
 (ixor (tb.getD ((List.take 16 (dropO ((r - 1).toNat * 16) xs)).getD 12 0).toNat 0) ((List.take 16 (dropO ((r - 1).toNat * 16) xs)).getD 3 0)) ((List.take 16 (dropO ((r - 1).toNat * 16) xs)).getD 7 0))).set (addO (r.toNat * 16) 8) (ixor (ixor (ixor (ixor (tb.getD ((List.take 16 (dropO ((r - 1).toNat * 16) xs)).getD 13 0).toNat 0) c) ((List.take 16 (dropO ((r - 1).toNat * 16) xs)).getD 0 0))
 ((List.take 16 (dropO ((r - 1).toNat * 16) xs)).getD 4 0)) ((List.take 16 (dropO ((r - 1).toNat * 16) xs)).getD 8 0))).set (addO (r.toNat * 16) 9) (ixor (ixor (ixor (tb.getD ((List.take 16 (dropO ((r - 1).toNat * 16) xs)).getD 14 0).toNat 0) ((List.take 16 (dropO ((r - 1).toNat * 16) xs)).getD 1 0)) ((List.take 16 (dropO ((r - 1).toNat * 16) xs)).getD 5 0)) ((List.take 16 (dropO ((r - 1).toNat *
 16) xs)).getD 9 0))).set (addO (r.toNat * 16) 10) (ixor (ixor (ixor (tb.getD ((List.take 16 (dropO ((r - 1).toNat * 16) xs)).getD 15 0).toNat 0) ((List.take 16 (dropO ((r - 1).toNat * 16) xs)).getD 2 0)) ((List.take 16 (dropO ((r - 1).toNat * 16) xs)).getD 6 0)) ((List.take 16 (dropO ((r - 1).toNat * 16) xs)).getD 10 0))).length, .leN 13 (List.take 16 (dropO ((r - 1).toNat * 16) xs)).length, .nn
 .u8 (ixor (ixor (ixor (ixor (tb.getD ((List.take 16 (dropO ((r - 1).toNat * 16) xs)).getD 13 0).toNat 0) c) ((List.take 16 (dropO ((r - 1).toNat * 16) xs)).getD 0 0)) ((List.take 16 (dropO ((r - 1).toNat * 16) xs)).getD 4 0)) ((List.take 16 (dropO ((r - 1).toNat * 16) xs)).getD 8 0)), .nn .u8 ((List.take 16 (dropO ((r - 1).toNat * 16) xs)).getD 12 0), .leN (addO (r.toNat * 16) 12 + 1)
 ((((((((((((xs.set (addO (r.toNat * 16) 0) (ixor (ixor (tb.getD ((List.take 16 (dropO ((r - 1).toNat * 16) xs)).getD 13 0).toNat 0) c) ((List.take 16 (dropO ((r - 1).toNat * 16) xs)).getD 0 0))).set (addO (r.toNat * 16) 1) (ixor (tb.getD ((List.take 16 (dropO ((r - 1).toNat * 16) xs)).getD 14 0).toNat 0) ((List.take 16 (dropO ((r - 1).toNat * 16) xs)).getD 1 0))).set (addO (r.toNat * 16) 2) (ixor
 (tb.getD ((List.take 16 (dropO ((r - 1).toNat * 16) xs)).getD 15 0).toNat 0) ((List.take 16 (dropO ((r - 1).toNat * 16) xs)).getD 2 0))).set (addO (r.toNat * 16) 3) (ixor (tb.getD ((List.take 16 (dropO ((r - 1).toNat * 16) xs)).getD 12 0).toNat 0) ((List.take 16 (dropO ((r - 1).toNat * 16) xs)).getD 3 0))).set (addO (r.toNat * 16) 4) (ixor (ixor (ixor (tb.getD ((List.take 16 (dropO ((r - 1).toNat *
 16) xs)).getD 13 0).toNat 0) c) ((List.take 16 (dropO ((r - 1).toNat * 16) xs)).getD 0 0)) ((List.take 16 (dropO ((r - 1).toNat * 16) xs)).getD 4 0))).set (addO (r.toNat * 16) 5) (ixor (ixor (tb.getD ((List.take 16 (dropO ((r - 1).toNat * 16) xs)).getD 14 0).toNat 0) ((List.take 16 (dropO ((r - 1).toNat * 16) xs)).getD 1 0)) ((List.take 16 (dropO ((r - 1).toNat * 16) xs)).getD 5 0))).set (addO
 (r.toNat * 16) 6) (ixor (ixor (tb.getD ((List.take 16 (dropO ((r - 1).toNat * 16) xs)).getD 15 0).toNat 0) ((List.take 16 (dropO ((r - 1).toNat * 16) xs)).getD 2 0)) ((List.take 16 (dropO ((r - 1).toNat * 16) xs)).getD 6 0))).set (addO (r.toNat * 16) 7) (ixor (ixor (tb.getD ((List.take 16 (dropO ((r - 1).toNat * 16) xs)).getD 12 0).toNat 0) ((List.take 16 (dropO ((r - 1).toNat * 16) xs)).getD 3 0))
 ((List.take 16 (dropO ((r - 1).toNat * 16) xs)).getD 7 0))).set (addO (r.toNat * 16) 8) (ixor (ixor (ixor (ixor (tb.getD ((List.take 16 (dropO ((r - 1).toNat * 16) xs)).getD 13 0).toNat 0) c) ((List.take 16 (dropO ((r - 1).toNat * 16) xs)).getD 0 0)) ((List.take 16 (dropO ((r - 1).toNat * 16) xs)).getD 4 0)) ((List.take 16 (dropO ((r - 1).toNat * 16) xs)).getD 8 0))).set (addO (r.toNat * 16) 9)
 (ixor (ixor (ixor (tb.getD ((List.take 16 (dropO ((r - 1).toNat * 16) xs)).getD 14 0).toNat 0) ((List.take 16 (dropO ((r - 1).toNat * 16) xs)).getD 1 0)) ((List.take 16 (dropO ((r - 1).toNat * 16) xs)).getD 5 0)) ((List.take 16 (dropO ((r - 1).toNat * 16) xs)).getD 9 0))).set (addO (r.toNat * 16) 10) (ixor (ixor (ixor (tb.getD ((List.take 16 (dropO ((r - 1).toNat * 16) xs)).getD 15 0).toNat 0)
 ((List.take 16 (dropO ((r - 1).toNat * 16) xs)).getD 2 0)) ((List.take 16 (dropO ((r - 1).toNat * 16) xs)).getD 6 0)) ((List.take 16 (dropO ((r - 1).toNat * 16) xs)).getD 10 0))).set (addO (r.toNat * 16) 11) (ixor (ixor (ixor (tb.getD ((List.take 16 (dropO ((r - 1).toNat * 16) xs)).getD 12 0).toNat 0) ((List.take 16 (dropO ((r - 1).toNat * 16) xs)).getD 3 0)) ((List.take 16 (dropO ((r - 1).toNat *
 16) xs)).getD 7 0)) ((List.take 16 (dropO ((r - 1).toNat * 16) xs)).getD 11 0))).length, .leN 14 (List.take 16 (dropO ((r - 1).toNat * 16) xs)).length, .nn .u8 (ixor (ixor (ixor (tb.getD ((List.take 16 (dropO ((r - 1).toNat * 16) xs)).getD 14 0).toNat 0) ((List.take 16 (dropO ((r - 1).toNat * 16) xs)).getD 1 0)) ((List.take 16 (dropO ((r - 1).toNat * 16) xs)).getD 5 0)) ((List.take 16 (dropO ((r -
 1).toNat * 16) xs)).getD 9 0)), .nn .u8 ((List.take 16 (dropO ((r - 1).toNat * 16) xs)).getD 13 0), .leN (addO (r.toNat * 16) 13 + 1) (((((((((((((xs.set (addO (r.toNat * 16) 0) (ixor (ixor (tb.getD ((List.take 16 (dropO ((r - 1).toNat * 16) xs)).getD 13 0).toNat 0) c) ((List.take 16 (dropO ((r - 1).toNat * 16) xs)).getD 0 0))).set (addO (r.toNat * 16) 1) (ixor (tb.getD ((List.take 16 (dropO ((r -
 1).toNat * 16) xs)).getD 14 0).toNat 0) ((List.take 16 (dropO ((r - 1).toNat * 16) xs)).getD 1 0))).set (addO (r.toNat * 16) 2) (ixor (tb.getD ((List.take 16 (dropO ((r - 1).toNat * 16) xs)).getD 15 0).toNat 0) ((List.take 16 (dropO ((r - 1).toNat * 16) xs)).getD 2 0))).set (addO (r.toNat * 16) 3) (ixor (tb.getD ((List.take 16 (dropO ((r - 1).toNat * 16) xs)).getD 12 0).toNat 0) ((List.take 16
 (dropO ((r - 1).toNat * 16) xs)).getD 3 0))).set (addO (r.toNat * 16) 4) (ixor (ixor (ixor (tb.getD ((List.take 16 (dropO ((r - 1).toNat * 16) xs)).getD 13 0).toNat 0) c) ((List.take 16 (dropO ((r - 1).toNat * 16) xs)).getD 0 0)) ((List.take 16 (dropO ((r - 1).toNat * 16) xs)).getD 4 0))).set (addO (r.toNat * 16) 5) (ixor (ixor (tb.getD ((List.take 16 (dropO ((r - 1).toNat * 16) xs)).getD 14
 0).toNat 0) ((List.take 16 (dropO ((r - 1).toNat * 16) xs)).getD 1 0)) ((List.take 16 (dropO ((r - 1).toNat * 16) xs)).getD 5 0))).set (addO (r.toNat * 16) 6) (ixor (ixor (tb.getD ((List.take 16 (dropO ((r - 1).toNat * 16) xs)).getD 15 0).toNat 0) ((List.take 16 (dropO ((r - 1).toNat * 16) xs)).getD 2 0)) ((List.take 16 (dropO ((r - 1).toNat * 16) xs)).getD 6 0))).set (addO (r.toNat * 16) 7) (ixor
 (ixor (tb.getD ((List.take 16 (dropO ((r - 1).toNat * 16) xs)).getD 12 0).toNat 0) ((List.take 16 (dropO ((r - 1).toNat * 16) xs)).getD 3 0)) ((List.take 16 (dropO ((r - 1).toNat * 16) xs)).getD 7 0))).set (addO (r.toNat * 16) 8) (ixor (ixor (ixor (ixor (tb.getD ((List.take 16 (dropO ((r - 1).toNat * 16) xs)).getD 13 0).toNat 0) c) ((List.take 16 (dropO ((r - 1).toNat * 16) xs)).getD 0 0))
 ((List.take 16 (dropO ((r - 1).toNat * 16) xs)).getD 4 0)) ((List.take 16 (dropO ((r - 1).toNat * 16) xs)).getD 8 0))).set (addO (r.toNat * 16) 9) (ixor (ixor (ixor (tb.getD ((List.take 16 (dropO ((r - 1).toNat * 16) xs)).getD 14 0).toNat 0) ((List.take 16 (dropO ((r - 1).toNat * 16) xs)).getD 1 0)) ((List.take 16 (dropO ((r - 1).toNat * 16) xs)).getD 5 0)) ((List.take 16 (dropO ((r - 1).toNat *
 16) xs)).getD 9 0))).set (addO (r.toNat * 16) 10) (ixor (ixor (ixor (tb.getD ((List.take 16 (dropO ((r - 1).toNat * 16) xs)).getD 15 0).toNat 0) ((List.take 16 (dropO ((r - 1).toNat * 16) xs)).getD 2 0)) ((List.take 16 (dropO ((r - 1).toNat * 16) xs)).getD 6 0)) ((List.take 16 (dropO ((r - 1).toNat * 16) xs)).getD 10 0))).set (addO (r.toNat * 16) 11) (ixor (ixor (ixor (tb.getD ((List.take 16 (dropO
 ((r - 1).toNat * 16) xs)).getD 12 0).toNat 0) ((List.take 16 (dropO ((r - 1).toNat * 16) xs)).getD 3 0)) ((List.take 16 (dropO ((r - 1).toNat * 16) xs)).getD 7 0)) ((List.take 16 (dropO ((r - 1).toNat * 16) xs)).getD 11 0))).set (addO (r.toNat * 16) 12) (ixor (ixor (ixor (ixor (ixor (tb.getD ((List.take 16 (dropO ((r - 1).toNat * 16) xs)).getD 13 0).toNat 0) c) ((List.take 16 (dropO ((r - 1).toNat
 * 16) xs)).getD 0 0)) ((List.take 16 (dropO ((r - 1).toNat * 16) xs)).getD 4 0)) ((List.take 16 (dropO ((r - 1).toNat * 16) xs)).getD 8 0)) ((List.take 16 (dropO ((r - 1).toNat * 16) xs)).getD 12 0))).length, .leN 15 (List.take 16 (dropO ((r - 1).toNat * 16) xs)).length, .nn .u8 (ixor (ixor (ixor (tb.getD ((List.take 16 (dropO ((r - 1).toNat * 16) xs)).getD 15 0).toNat 0) ((List.take 16 (dropO ((r
 - 1).toNat * 16) xs)).getD 2 0)) ((List.take 16 (dropO ((r - 1).toNat * 16) xs)).getD 6 0)) ((List.take 16 (dropO ((r - 1).toNat * 16) xs)).getD 10 0)), .nn .u8 ((List.take 16 (dropO ((r - 1).toNat * 16) xs)).getD 14 0), .leN (addO (r.toNat * 16) 14 + 1) ((((((((((((((xs.set (addO (r.toNat * 16) 0) (ixor (ixor (tb.getD ((List.take 16 (dropO ((r - 1).toNat * 16) xs)).getD 13 0).toNat 0) c)
 ((List.take 16 (dropO ((r - 1).toNat * 16) xs)).getD 0 0))).set (addO (r.toNat * 16) 1) (ixor (tb.getD ((List.take 16 (dropO ((r - 1).toNat * 16) xs)).getD 14 0).toNat 0) ((List.take 16 (dropO ((r - 1).toNat * 16) xs)).getD 1 0))).set (addO (r.toNat * 16) 2) (ixor (tb.getD ((List.take 16 (dropO ((r - 1).toNat * 16) xs)).getD 15 0).toNat 0) ((List.take 16 (dropO ((r - 1).toNat * 16) xs)).getD 2
 0))).set (addO (r.toNat * 16) 3) (ixor (tb.getD ((List.take 16 (dropO ((r - 1).toNat * 16) xs)).getD 12 0).toNat 0) ((List.take 16 (dropO ((r - 1).toNat * 16) xs)).getD 3 0))).set (addO (r.toNat * 16) 4) (ixor (ixor (ixor (tb.getD ((List.take 16 (dropO ((r - 1).toNat * 16) xs)).getD 13 0).toNat 0) c) ((List.take 16 (dropO ((r - 1).toNat * 16) xs)).getD 0 0)) ((List.take 16 (dropO ((r - 1).toNat *
 16) xs)).getD 4 0))).set (addO (r.toNat * 16) 5) (ixor (ixor (tb.getD ((List.take 16 (dropO ((r - 1).toNat * 16) xs)).getD 14 0).toNat 0) ((List.take 16 (dropO ((r - 1).toNat * 16) xs)).getD 1 0)) ((List.take 16 (dropO ((r - 1).toNat * 16) xs)).getD 5 0))).set (addO (r.toNat * 16) 6) (ixor (ixor (tb.getD ((List.take 16 (dropO ((r - 1).toNat * 16) xs)).getD 15 0).toNat 0) ((List.take 16 (dropO ((r -
 1).toNat * 16) xs)).getD 2 0)) ((List.take 16 (dropO ((r - 1).toNat * 16) xs)).getD 6 0))).set (addO (r.toNat * 16) 7) (ixor (ixor (tb.getD ((List.take 16 (dropO ((r - 1).toNat * 16) xs)).getD 12 0).toNat 0) ((List.take 16 (dropO ((r - 1).toNat * 16) xs)).getD 3 0)) ((List.take 16 (dropO ((r - 1).toNat * 16) xs)).getD 7 0))).set (addO (r.toNat * 16) 8) (ixor (ixor (ixor (ixor (tb.getD ((List.take
 16 (dropO ((r - 1).toNat * 16) xs)).getD 13 0).toNat 0) c) ((List.take 16 (dropO ((r - 1).toNat * 16) xs)).getD 0 0)) ((List.take 16 (dropO ((r - 1).toNat * 16) xs)).getD 4 0)) ((List.take 16 (dropO ((r - 1).toNat * 16) xs)).getD 8 0))).set (addO (r.toNat * 16) 9) (ixor (ixor (ixor (tb.getD ((List.take 16 (dropO ((r - 1).toNat * 16) xs)).getD 14 0).toNat 0) ((List.take 16 (dropO ((r - 1).toNat *
 16) xs)).getD 1 0)) ((List.take 16 (dropO ((r - 1).toNat * 16) xs)).getD 5 0)) ((List.take 16 (dropO ((r - 1).toNat * 16) xs)).getD 9 0))).set (addO (r.toNat * 16) 10) (ixor (ixor (ixor (tb.getD ((List.take 16 (dropO ((r - 1).toNat * 16) xs)).getD 15 0).toNat 0) ((List.take 16 (dropO ((r - 1).toNat * 16) xs)).getD 2 0)) ((List.take 16 (dropO ((r - 1).toNat * 16) xs)).getD 6 0)) ((List.take 16
 (dropO ((r - 1).toNat * 16) xs)).getD 10 0))).set (addO (r.toNat * 16) 11) (ixor (ixor (ixor (tb.getD ((List.take 16 (dropO ((r - 1).toNat * 16) xs)).getD 12 0).toNat 0) ((List.take 16 (dropO ((r - 1).toNat * 16) xs)).getD 3 0)) ((List.take 16 (dropO ((r - 1).toNat * 16) xs)).getD 7 0)) ((List.take 16 (dropO ((r - 1).toNat * 16) xs)).getD 11 0))).set (addO (r.toNat * 16) 12) (ixor (ixor (ixor (ixor
 (ixor (tb.getD ((List.take 16 (dropO ((r - 1).toNat * 16) xs)).getD 13 0).toNat 0) c) ((List.take 16 (dropO ((r - 1).toNat * 16) xs)).getD 0 0)) ((List.take 16 (dropO ((r - 1).toNat * 16) xs)).getD 4 0)) ((List.take 16 (dropO ((r - 1).toNat * 16) xs)).getD 8 0)) ((List.take 16 (dropO ((r - 1).toNat * 16) xs)).getD 12 0))).set (addO (r.toNat * 16) 13) (ixor (ixor (ixor (ixor (tb.getD ((List.take 16
 (dropO ((r - 1).toNat * 16) xs)).getD 14 0).toNat 0) ((List.take 16 (dropO ((r - 1).toNat * 16) xs)).getD 1 0)) ((List.take 16 (dropO ((r - 1).toNat * 16) xs)).getD 5 0)) ((List.take 16 (dropO ((r - 1).toNat * 16) xs)).getD 9 0)) ((List.take 16 (dropO ((r - 1).toNat * 16) xs)).getD 13 0))).length, .leN 16 (List.take 16 (dropO ((r - 1).toNat * 16) xs)).length, .nn .u8 (ixor (ixor (ixor (tb.getD
 ((List.take 16 (dropO ((r - 1).toNat * 16) xs)).getD 12 0).toNat 0) ((List.take 16 (dropO ((r - 1).toNat * 16) xs)).getD 3 0)) ((List.take 16 (dropO ((r - 1).toNat * 16) xs)).getD 7 0)) ((List.take 16 (dropO ((r - 1).toNat * 16) xs)).getD 11 0)), .nn .u8 ((List.take 16 (dropO ((r - 1).toNat * 16) xs)).getD 15 0), .leN (addO (r.toNat * 16) 15 + 1) (((((((((((((((xs.set (addO (r.toNat * 16) 0) (ixor
 (ixor (tb.getD ((List.take 16 (dropO ((r - 1).toNat * 16) xs)).getD 13 0).toNat 0) c) ((List.take 16 (dropO ((r - 1).toNat * 16) xs)).getD 0 0))).set (addO (r.toNat * 16) 1) (ixor (tb.getD ((List.take 16 (dropO ((r - 1).toNat * 16) xs)).getD 14 0).toNat 0) ((List.take 16 (dropO ((r - 1).toNat * 16) xs)).getD 1 0))).set (addO (r.toNat * 16) 2) (ixor (tb.getD ((List.take 16 (dropO ((r - 1).toNat *
 16) xs)).getD 15 0).toNat 0) ((List.take 16 (dropO ((r - 1).toNat * 16) xs)).getD 2 0))).set (addO (r.toNat * 16) 3) (ixor (tb.getD ((List.take 16 (dropO ((r - 1).toNat * 16) xs)).getD 12 0).toNat 0) ((List.take 16 (dropO ((r - 1).toNat * 16) xs)).getD 3 0))).set (addO (r.toNat * 16) 4) (ixor (ixor (ixor (tb.getD ((List.take 16 (dropO ((r - 1).toNat * 16) xs)).getD 13 0).toNat 0) c) ((List.take 16
 (dropO ((r - 1).toNat * 16) xs)).getD 0 0)) ((List.take 16 (dropO ((r - 1).toNat * 16) xs)).getD 4 0))).set (addO (r.toNat * 16) 5) (ixor (ixor (tb.getD ((List.take 16 (dropO ((r - 1).toNat * 16) xs)).getD 14 0).toNat 0) ((List.take 16 (dropO ((r - 1).toNat * 16) xs)).getD 1 0)) ((List.take 16 (dropO ((r - 1).toNat * 16) xs)).getD 5 0))).set (addO (r.toNat * 16) 6) (ixor (ixor (tb.getD ((List.take
 16 (dropO ((r - 1).toNat * 16) xs)).getD 15 0).toNat 0) ((List.take 16 (dropO ((r - 1).toNat * 16) xs)).getD 2 0)) ((List.take 16 (dropO ((r - 1).toNat * 16) xs)).getD 6 0))).set (addO (r.toNat * 16) 7) (ixor (ixor (tb.getD ((List.take 16 (dropO ((r - 1).toNat * 16) xs)).getD 12 0).toNat 0) ((List.take 16 (dropO ((r - 1).toNat * 16) xs)).getD 3 0)) ((List.take 16 (dropO ((r - 1).toNat * 16)
 xs)).getD 7 0))).set (addO (r.toNat * 16) 8) (ixor (ixor (ixor (ixor (tb.getD ((List.take 16 (dropO ((r - 1).toNat * 16) xs)).getD 13 0).toNat 0) c) ((List.take 16 (dropO ((r - 1).toNat * 16) xs)).getD 0 0)) ((List.take 16 (dropO ((r - 1).toNat * 16) xs)).getD 4 0)) ((List.take 16 (dropO ((r - 1).toNat * 16) xs)).getD 8 0))).set (addO (r.toNat * 16) 9) (ixor (ixor (ixor (tb.getD ((List.take 16
 (dropO ((r - 1).toNat * 16) xs)).getD 14 0).toNat 0) ((List.take 16 (dropO ((r - 1).toNat * 16) xs)).getD 1 0)) ((List.take 16 (dropO ((r - 1).toNat * 16) xs)).getD 5 0)) ((List.take 16 (dropO ((r - 1).toNat * 16) xs)).getD 9 0))).set (addO (r.toNat * 16) 10) (ixor (ixor (ixor (tb.getD ((List.take 16 (dropO ((r - 1).toNat * 16) xs)).getD 15 0).toNat 0) ((List.take 16 (dropO ((r - 1).toNat * 16)
 xs)).getD 2 0)) ((List.take 16 (dropO ((r - 1).toNat * 16) xs)).getD 6 0)) ((List.take 16 (dropO ((r - 1).toNat * 16) xs)).getD 10 0))).set (addO (r.toNat * 16) 11) (ixor (ixor (ixor (tb.getD ((List.take 16 (dropO ((r - 1).toNat * 16) xs)).getD 12 0).toNat 0) ((List.take 16 (dropO ((r - 1).toNat * 16) xs)).getD 3 0)) ((List.take 16 (dropO ((r - 1).toNat * 16) xs)).getD 7 0)) ((List.take 16 (dropO
 ((r - 1).toNat * 16) xs)).getD 11 0))).set (addO (r.toNat * 16) 12) (ixor (ixor (ixor (ixor (ixor (tb.getD ((List.take 16 (dropO ((r - 1).toNat * 16) xs)).getD 13 0).toNat 0) c) ((List.take 16 (dropO ((r - 1).toNat * 16) xs)).getD 0 0)) ((List.take 16 (dropO ((r - 1).toNat * 16) xs)).getD 4 0)) ((List.take 16 (dropO ((r - 1).toNat * 16) xs)).getD 8 0)) ((List.take 16 (dropO ((r - 1).toNat * 16)
 xs)).getD 12 0))).set (addO (r.toNat * 16) 13) (ixor (ixor (ixor (ixor (tb.getD ((List.take 16 (dropO ((r - 1).toNat * 16) xs)).getD 14 0).toNat 0) ((List.take 16 (dropO ((r - 1).toNat * 16) xs)).getD 1 0)) ((List.take 16 (dropO ((r - 1).toNat * 16) xs)).getD 5 0)) ((List.take 16 (dropO ((r - 1).toNat * 16) xs)).getD 9 0)) ((List.take 16 (dropO ((r - 1).toNat * 16) xs)).getD 13 0))).set (addO
 (r.toNat * 16) 14) (ixor (ixor (ixor (ixor (tb.getD ((List.take 16 (dropO ((r - 1).toNat * 16) xs)).getD 15 0).toNat 0) ((List.take 16 (dropO ((r - 1).toNat * 16) xs)).getD 2 0)) ((List.take 16 (dropO ((r - 1).toNat * 16) xs)).getD 6 0)) ((List.take 16 (dropO ((r - 1).toNat * 16) xs)).getD 10 0)) ((List.take 16 (dropO ((r - 1).toNat * 16) xs)).getD 14 0))).length, .rng (-9223372036854775808) (r +
 1) 9223372036854775807]) : Ok (A41 r c xs zz ks tb g g' ow ow') := Ok.dem (fl := bitsF 713 14812295567995266859423041344952596858401985959682369762493437951653479193757422048755422786416496241533285720733306597543463263459216842035988486915263449196586197811220946843653630343125549520209556578459044169824) (by kernel_rfl) (by kernel_rfl) (by kernel_rfl) h
theorem A41_ex {r c : Int} {xs zz ks tb : List Int} {g g' : Nat} {ow ow' : Bool} : (A41 r c xs zz ks tb g g' ow ow').ex = .normal := by kernel_rfl
theorem A41_fm {r c : Int} {xs zz ks tb : List Int} {g g' : Nat} {ow ow' : Bool} : (A41 r c xs zz ks tb g g' ow ow').fm = [(0, .var 0 g), (4, .var 2 0), (5, .var 3 0), (6, .int .u8 (dblLaw c)), (7, .int .i64 (r + 1))] := by kernel_rfl
theorem A41_tab {r c : Int} {xs zz ks tb : List Int} {g g' : Nat} {ow ow' : Bool} : (A41 r c xs zz ks tb g g' ow ow').tab = [some ⟨.ints .u8 tb, g, ow, 72⟩, some ⟨.ints .u8 ks, g', ow', 5⟩, some ⟨.ints .u8 zz, 0, true, 49⟩, some ⟨.ints .u8 ((((((((((((((((xs.set (addO (r.toNat * 16) 0) (ixor (ixor (tb.getD ((List.take 16 (dropO ((r - 1).toNat * 16) xs)).getD 13 0).toNat 0) c) ((List.take 16 (dropO
 ((r - 1).toNat * 16) xs)).getD 0 0))).set (addO (r.toNat * 16) 1) (ixor (tb.getD ((List.take 16 (dropO ((r - 1).toNat * 16) xs)).getD 14 0).toNat 0) ((List.take 16 (dropO ((r - 1).toNat * 16) xs)).getD 1 0))).set (addO (r.toNat * 16) 2) (ixor (tb.getD ((List.take 16 (dropO ((r - 1).toNat * 16) xs)).getD 15 0).toNat 0) ((List.take 16 (dropO ((r - 1).toNat * 16) xs)).getD 2 0))).set (addO (r.toNat *
 16) 3) (ixor (tb.getD ((List.take 16 (dropO ((r - 1).toNat * 16) xs)).getD 12 0).toNat 0) ((List.take 16 (dropO ((r - 1).toNat * 16) xs)).getD 3 0))).set (addO (r.toNat * 16) 4) (ixor (ixor (ixor (tb.getD ((List.take 16 (dropO ((r - 1).toNat * 16) xs)).getD 13 0).toNat 0) c) ((List.take 16 (dropO ((r - 1).toNat * 16) xs)).getD 0 0)) ((List.take 16 (dropO ((r - 1).toNat * 16) xs)).getD 4 0))).set
 (addO (r.toNat * 16) 5) (ixor (ixor (tb.getD ((List.take 16 (dropO ((r - 1).toNat * 16) xs)).getD 14 0).toNat 0) ((List.take 16 (dropO ((r - 1).toNat * 16) xs)).getD 1 0)) ((List.take 16 (dropO ((r - 1).toNat * 16) xs)).getD 5 0))).set (addO (r.toNat * 16) 6) (ixor (ixor (tb.getD ((List.take 16 (dropO ((r - 1).toNat * 16) xs)).getD 15 0).toNat 0) ((List.take 16 (dropO ((r - 1).toNat * 16) xs)).getD
 2 0)) ((List.take 16 (dropO ((r - 1).toNat * 16) xs)).getD 6 0))).set (addO (r.toNat * 16) 7) (ixor (ixor (tb.getD ((List.take 16 (dropO ((r - 1).toNat * 16) xs)).getD 12 0).toNat 0) ((List.take 16 (dropO ((r - 1).toNat * 16) xs)).getD 3 0)) ((List.take 16 (dropO ((r - 1).toNat * 16) xs)).getD 7 0))).set (addO (r.toNat * 16) 8) (ixor (ixor (ixor (ixor (tb.getD ((List.take 16 (dropO ((r - 1).toNat *
 16) xs)).getD 13 0).toNat 0) c) ((List.take 16 (dropO ((r - 1).toNat * 16) xs)).getD 0 0)) ((List.take 16 (dropO ((r - 1).toNat * 16) xs)).getD 4 0)) ((List.take 16 (dropO ((r - 1).toNat * 16) xs)).getD 8 0))).set (addO (r.toNat * 16) 9) (ixor (ixor (ixor (tb.getD ((List.take 16 (dropO ((r - 1).toNat * 16) xs)).getD 14 0).toNat 0) ((List.take 16 (dropO ((r - 1).toNat * 16) xs)).getD 1 0))
 ((List.take 16 (dropO ((r - 1).toNat * 16) xs)).getD 5 0)) ((List.take 16 (dropO ((r - 1).toNat * 16) xs)).getD 9 0))).set (addO (r.toNat * 16) 10) (ixor (ixor (ixor (tb.getD ((List.take 16 (dropO ((r - 1).toNat * 16) xs)).getD 15 0).toNat 0) ((List.take 16 (dropO ((r - 1).toNat * 16) xs)).getD 2 0)) ((List.take 16 (dropO ((r - 1).toNat * 16) xs)).getD 6 0)) ((List.take 16 (dropO ((r - 1).toNat *
 16) xs)).getD 10 0))).set (addO (r.toNat * 16) 11) (ixor (ixor (ixor (tb.getD ((List.take 16 (dropO ((r - 1).toNat * 16) xs)).getD 12 0).toNat 0) ((List.take 16 (dropO ((r - 1).toNat * 16) xs)).getD 3 0)) ((List.take 16 (dropO ((r - 1).toNat * 16) xs)).getD 7 0)) ((List.take 16 (dropO ((r - 1).toNat * 16) xs)).getD 11 0))).set (addO (r.toNat * 16) 12) (ixor (ixor (ixor (ixor (ixor (tb.getD
 ((List.take 16 (dropO ((r - 1).toNat * 16) xs)).getD 13 0).toNat 0) c) ((List.take 16 (dropO ((r - 1).toNat * 16) xs)).getD 0 0)) ((List.take 16 (dropO ((r - 1).toNat * 16) xs)).getD 4 0)) ((List.take 16 (dropO ((r - 1).toNat * 16) xs)).getD 8 0)) ((List.take 16 (dropO ((r - 1).toNat * 16) xs)).getD 12 0))).set (addO (r.toNat * 16) 13) (ixor (ixor (ixor (ixor (tb.getD ((List.take 16 (dropO ((r -
 1).toNat * 16) xs)).getD 14 0).toNat 0) ((List.take 16 (dropO ((r - 1).toNat * 16) xs)).getD 1 0)) ((List.take 16 (dropO ((r - 1).toNat * 16) xs)).getD 5 0)) ((List.take 16 (dropO ((r - 1).toNat * 16) xs)).getD 9 0)) ((List.take 16 (dropO ((r - 1).toNat * 16) xs)).getD 13 0))).set (addO (r.toNat * 16) 14) (ixor (ixor (ixor (ixor (tb.getD ((List.take 16 (dropO ((r - 1).toNat * 16) xs)).getD 15
 0).toNat 0) ((List.take 16 (dropO ((r - 1).toNat * 16) xs)).getD 2 0)) ((List.take 16 (dropO ((r - 1).toNat * 16) xs)).getD 6 0)) ((List.take 16 (dropO ((r - 1).toNat * 16) xs)).getD 10 0)) ((List.take 16 (dropO ((r - 1).toNat * 16) xs)).getD 14 0))).set (addO (r.toNat * 16) 15) (ixor (ixor (ixor (ixor (tb.getD ((List.take 16 (dropO ((r - 1).toNat * 16) xs)).getD 12 0).toNat 0) ((List.take 16
 (dropO ((r - 1).toNat * 16) xs)).getD 3 0)) ((List.take 16 (dropO ((r - 1).toNat * 16) xs)).getD 7 0)) ((List.take 16 (dropO ((r - 1).toNat * 16) xs)).getD 11 0)) ((List.take 16 (dropO ((r - 1).toNat * 16) xs)).getD 15 0))), 0, true, 49⟩] := by kernel_rfl
noncomputable def B41 (r c : Int) (xs zz ks tb : List Int) (g g' : Nat) (ow ow' : Bool) : Out := trim 4 4 [4,5] (run eH 81 ⟨4, []⟩ 400 (roundOf 0 f41) [(0, .var 0 g), (4, .var 2 0), (5, .var 3 0), (6, .int .u8 c), (7, .int .i64 r)] [some ⟨.ints .u8 tb, g, ow, 72⟩, some ⟨.ints .u8 ks, g', ow', 5⟩, some ⟨.ints .u8 zz, 0, true, 49⟩, some ⟨.ints .u8 xs, 0, true, 49⟩] [some false])
theorem B41_ok {r c : Int} {xs zz ks tb : List Int} {g g' : Nat} {ow ow' : Bool} (h : allP [.p (decide (r < 11) = false)]) : Ok (B41 r c xs zz ks tb g g' ow ow') := Ok.dem (fl := [false]) (by kernel_rfl) (by kernel_rfl) (by kernel_rfl) h
theorem B41_ex {r c : Int} {xs zz ks tb : List Int} {g g' : Nat} {ow ow' : Bool} : (B41 r c xs zz ks tb g g' ow ow').ex = .exit 0 := by kernel_rfl
theorem B41_fm {r c : Int} {xs zz ks tb : List Int} {g g' : Nat} {ow ow' : Bool} : (B41 r c xs zz ks tb g g' ow ow').fm = [(4, .var 2 0), (5, .var 3 0)] := by kernel_rfl
theorem B41_tab {r c : Int} {xs zz ks tb : List Int} {g g' : Nat} {ow ow' : Bool} : (B41 r c xs zz ks tb g g' ow ow').tab = [some ⟨.ints .u8 tb, g, ow, 72⟩, some ⟨.ints .u8 ks, g', ow', 5⟩, some ⟨.ints .u8 zz, 0, true, 49⟩, some ⟨.ints .u8 xs, 0, true, 49⟩] := by kernel_rfl
def F41 (g : Nat) (i : Nat) : Fm := [(0, .var 0 g), (4, .var 2 0), (5, .var 3 0), (6, .int .u8 (rcLaw i)), (7, .int .i64 (i + 1 : Nat))]
def xs41Law (key : List Int) (i : Nat) : List Int := ksLaw key (16 * (i + 1)) ++ List.replicate (176 - 16 * (i + 1)) 0
def T41 (key zz ks : List Int) (g g' : Nat) (ow ow' : Bool) (i : Nat) : Tab := [some ⟨.ints .u8 TABLaw, g, ow, 72⟩, some ⟨.ints .u8 ks, g', ow', 5⟩, some ⟨.ints .u8 zz, 0, true, 49⟩, some ⟨.ints .u8 (xs41Law key i), 0, true, 49⟩]
theorem round41 {key zz ks : List Int} (hk : key.length = 16) (hb : Bytes key) {g g' : Nat} {ow ow' : Bool} {i : Nat} (hi : i < 10) : To eH 81 4 (roundOf 0 f41) (F41 g i) (T41 key zz ks g g' ow ow' i) .normal (F41 g (i + 1)) (T41 key zz ks g g' ow ow' (i + 1)) := by
  have hc := rcLaw_lt i
  have hlen := ksLaw_len hk (n := 16 * (i + 1)) (by omega)
  have hkb := ksLaw_bytes hb (16 * (i + 1))
  have hxl : (xs41Law key i).length = 176 := by simp [xs41Law, hlen]; omega
  have e1 : (((i + 1 : Nat) : Int) - 1).toNat * 16 = 16 * i := by omega
  have els : List.take 16 (dropO (16 * i) (xs41Law key i)) = (ksLaw key (16 * (i + 1))).drop (16 * i) := by
    rw [dropO_eq, xs41Law, List.drop_append_of_le_length (by omega), List.take_append_of_le_length (by simp; omega), List.take_of_length_le (by simp; omega)]
  have hls : ((ksLaw key (16 * (i + 1))).drop (16 * i)).length = 16 := by simp; omega
  have hlb := hkb.drop (16 * i)
  have hnext := ks_next hk (R := i + 1) (by omega)
  rw [show 16 * (i + 1) - 16 = 16 * i by omega, show i + 1 - 1 = i by omega, show 16 * (i + 1) + 16 = 16 * (i + 1 + 1) by omega] at hnext
  refine To.of (o := A41 (i + 1 : Nat) (rcLaw i) (xs41Law key i) zz ks TABLaw g g' ow ow') eH_ok hmA (Nat.le_refl 4) OrcOk.nil rfl (A41_ok ?_) A41_ex ?_ ?_
  · rw [e1, els]
    generalize (ksLaw key (16 * (i + 1))).drop (16 * i) = ls at hls hlb ⊢
    simp only [allP, Con.h, List.length_set, hls, hxl, TABLaw_len, addO_eq, tab_box (hlb.get 13), tab_box (hlb.get 14), tab_box (hlb.get 15), tab_box (hlb.get 12), eq_self, true_and, and_true, decide_eq_true_eq]
    have b12 := hlb.get 12
    have b13 := hlb.get 13
    have b14 := hlb.get 14
    have b15 := hlb.get 15
    repeat' with_reducible apply And.intro
    all_goals first | omega | skip
    all_goals repeat' (first | exact hlb.get _ | exact hc | exact boxLaw_rng (hlb.get _) | apply nn_xor)
  · rw [A41_fm]; rfl
  · rw [A41_tab, e1, els]
    have hsets : setsLaw (xs41Law key i) (16 * (i + 1)) (nextLaw ((ksLaw key (16 * (i + 1))).drop (16 * i)) (rcLaw i)) = xs41Law key (i + 1) := by
      have hn : (nextLaw ((ksLaw key (16 * (i + 1))).drop (16 * i)) (rcLaw i)).length = 16 := by
        have := congrArg List.length hnext
        rw [List.length_append, ksLaw_len hk (by omega), hlen] at this
        omega
      have := setsLaw_zeros (vs := nextLaw ((ksLaw key (16 * (i + 1))).drop (16 * i)) (rcLaw i)) (l := ksLaw key (16 * (i + 1))) (m := 176 - 16 * (i + 1)) (by omega)
      rw [hlen, hn] at this
      unfold xs41Law
      rw [this, hnext, show 176 - 16 * (i + 1) - 16 = 176 - 16 * (i + 1 + 1) by omega]
    unfold T41
    rw [← hsets]
    generalize (ksLaw key (16 * (i + 1))).drop (16 * i) = ls at hls hlb ⊢
    obtain ⟨a0, a1, a2, a3, a4, a5, a6, a7, a8, a9, a10, a11, a12, a13, a14, a15, rfl⟩ := list16 hls
    simp only [tab_box (hlb.get 13), tab_box (hlb.get 14), tab_box (hlb.get 15), tab_box (hlb.get 12), addO_eq]
    rw [show (((i + 1 : Nat) : Int)).toNat * 16 = 16 * (i + 1) by omega]
    unfold nextLaw
    rw [← stepsX_eq]
    refine Eq.symm ?_
    kernel_rfl
theorem loop41 {key zz ks : List Int} (hk : key.length = 16) (hb : Bytes key) {g g' : Nat} {ow ow' : Bool} : To eH 81 4 (.block 0 (.loop (roundOf 0 f41))) (F41 g 0) (T41 key zz ks g g' ow ow' 0) .normal [(4, .var 2 0), (5, .var 3 0)] (T41 key zz ks g g' ow ow' 10) :=
  To.rounds (F41 g) (T41 key zz ks g g' ow ow') 10 (fun i hi => round41 hk hb hi)
    (To.of (o := B41 (11 : Nat) (rcLaw 10) (xs41Law key 10) zz ks TABLaw g g' ow ow') eH_ok hmA (Nat.le_refl 4) OrcOk.nil rfl (B41_ok (by simp [allP, Con.h])) B41_ex B41_fm B41_tab)
theorem xs41_end (key : List Int) : xs41Law key 10 = ksLaw key 176 := by simp [xs41Law]
theorem xs41_start (key : List Int) : xs41Law key 0 = key ++ List.replicate 160 0 := rfl
def g41 : List AVal → Tab → Out := fun vs T => match vs, T with
  | [.var 0 g, .var 2 0, .var 3 0, .int .u8 c, .int .i64 r], [some ⟨.ints .u8 tb, gg, ow, 72⟩, some ⟨.ints .u8 ks, g', ow', 5⟩, some ⟨.ints .u8 zz, 0, true, 49⟩, some ⟨.ints .u8 xs, 0, true, 49⟩] =>
    ⟨[.rng 1 c 1, .rng 1 r 1, .eqN g gg, .p (tb = TABLaw), .p ((xs.take 16).length = 16 ∧ Bytes (xs.take 16) ∧ xs.drop 16 = List.replicate 160 0)], .normal, [(4, .var 2 0), (5, .var 3 0)],
      [some ⟨.ints .u8 tb, gg, ow, 72⟩, some ⟨.ints .u8 ks, g', ow', 5⟩, some ⟨.ints .u8 zz, 0, true, 49⟩, some ⟨.ints .u8 (ksLaw (xs.take 16) 176), 0, true, 49⟩], []⟩
  | _, _ => failO
theorem g41_ok : BlkOk eH f41 0 (.loop (roundOf 0 f41)) (blkS 4 [0,4,5,6,7] g41) := by
  refine blkS_ok fun vs T h => ?_
  unfold g41 at h ⊢
  split at h
  · rename_i g c r tb gg ow ks g' ow' zz xs
    obtain ⟨h1, h2, h3, h4, h5, _⟩ := h.h
    simp only [Con.h] at h1 h2 h3 h4 h5
    obtain rfl : c = 1 := by omega
    obtain rfl : r = 1 := by omega
    subst h3 h4
    have := loop41 (zz := zz) (ks := ks) (g := g) (g' := g') (ow := ow) (ow' := ow') h5.1 h5.2.1
    unfold T41 at this
    rw [xs41_end, xs41_start, ← h5.2.2, List.take_append_drop] at this
    exact this
  · exact absurd h nofailO
noncomputable def orc41 : OrcL := [(0, blkS 4 [0,4,5,6,7] g41)]
theorem orc41_ok : FnOrc eH f41 orc41 := FnOrc.cons g41_ok (by kernel_rfl) FnOrc.nil
noncomputable def R41 (tb ks : List Int) (g g' off : Nat) (cp : Option Nat) (ow ow' : Bool) : Res := runF eH f41 orc41 400 [.var 0 g, .slice 1 1 g' off 16 cp] [some ⟨.ints .u8 tb, g, ow, 72⟩, some ⟨.ints .u8 ks, g', ow', 5⟩] []
theorem R41_ok {tb ks : List Int} {g g' off : Nat} {cp : Option Nat} {ow ow' : Bool} (h : allP [.eqN g' g', .leN (off + 16) ks.length, .eqN g g, .p (tb = TABLaw), .p ((List.take 16 (over [0, 0, 0, 0, 0, 0, 0, 0, 0, 0, 0, 0, 0, 0, 0, 0, 0, 0, 0, 0, 0, 0, 0, 0, 0, 0, 0, 0, 0, 0, 0, 0, 0, 0, 0, 0, 0, 0, 0, 0, 0, 0, 0, 0, 0, 0, 0, 0, 0, 0, 0, 0, 0, 0, 0, 0, 0, 0, 0, 0, 0, 0, 0, 0, 0, 0, 0, 0, 0, 0, 0,
 0, 0, 0, 0, 0, 0, 0, 0, 0, 0, 0, 0, 0, 0, 0, 0, 0, 0, 0, 0, 0, 0, 0, 0, 0, 0, 0, 0, 0, 0, 0, 0, 0, 0, 0, 0, 0, 0, 0, 0, 0, 0, 0, 0, 0, 0, 0, 0, 0, 0, 0, 0, 0, 0, 0, 0, 0, 0, 0, 0, 0, 0, 0, 0, 0, 0, 0, 0, 0, 0, 0, 0, 0, 0, 0, 0, 0, 0, 0, 0, 0, 0, 0, 0, 0, 0, 0, 0, 0, 0, 0, 0, 0, 0, 0, 0, 0, 0, 0, 0, 0, 0, 0, 0, 0] 0 (List.take 16 (dropO off ks)))).length = 16 ∧ Bytes (List.take 16 (over [0, 0, 0, 0,
 0, 0, 0, 0, 0, 0, 0, 0, 0, 0, 0, 0, 0, 0, 0, 0, 0, 0, 0, 0, 0, 0, 0, 0, 0, 0, 0, 0, 0, 0, 0, 0, 0, 0, 0, 0, 0, 0, 0, 0, 0, 0, 0, 0, 0, 0, 0, 0, 0, 0, 0, 0, 0, 0, 0, 0, 0, 0, 0, 0, 0, 0, 0, 0, 0, 0, 0, 0, 0, 0, 0, 0, 0, 0, 0, 0, 0, 0, 0, 0, 0, 0, 0, 0, 0, 0, 0, 0, 0, 0, 0, 0, 0, 0, 0, 0, 0, 0, 0, 0, 0, 0, 0, 0, 0, 0, 0, 0, 0, 0, 0, 0, 0, 0, 0, 0, 0, 0, 0, 0, 0, 0, 0, 0, 0, 0, 0, 0, 0, 0, 0, 0, 0, 0,
 0, 0, 0, 0, 0, 0, 0, 0, 0, 0, 0, 0, 0, 0, 0, 0, 0, 0, 0, 0, 0, 0, 0, 0, 0, 0, 0, 0, 0, 0, 0, 0, 0, 0, 0, 0, 0, 0] 0 (List.take 16 (dropO off ks)))) ∧ List.drop 16 (over [0, 0, 0, 0, 0, 0, 0, 0, 0, 0, 0, 0, 0, 0, 0, 0, 0, 0, 0, 0, 0, 0, 0, 0, 0, 0, 0, 0, 0, 0, 0, 0, 0, 0, 0, 0, 0, 0, 0, 0, 0, 0, 0, 0, 0, 0, 0, 0, 0, 0, 0, 0, 0, 0, 0, 0, 0, 0, 0, 0, 0, 0, 0, 0, 0, 0, 0, 0, 0, 0, 0, 0, 0, 0, 0, 0, 0,
 0, 0, 0, 0, 0, 0, 0, 0, 0, 0, 0, 0, 0, 0, 0, 0, 0, 0, 0, 0, 0, 0, 0, 0, 0, 0, 0, 0, 0, 0, 0, 0, 0, 0, 0, 0, 0, 0, 0, 0, 0, 0, 0, 0, 0, 0, 0, 0, 0, 0, 0, 0, 0, 0, 0, 0, 0, 0, 0, 0, 0, 0, 0, 0, 0, 0, 0, 0, 0, 0, 0, 0, 0, 0, 0, 0, 0, 0, 0, 0, 0, 0, 0, 0, 0, 0, 0, 0, 0, 0, 0, 0, 0, 0, 0, 0, 0, 0, 0] 0 (List.take 16 (dropO off ks))) = [0, 0, 0, 0, 0, 0, 0, 0, 0, 0, 0, 0, 0, 0, 0, 0, 0, 0, 0, 0, 0, 0, 0,
 0, 0, 0, 0, 0, 0, 0, 0, 0, 0, 0, 0, 0, 0, 0, 0, 0, 0, 0, 0, 0, 0, 0, 0, 0, 0, 0, 0, 0, 0, 0, 0, 0, 0, 0, 0, 0, 0, 0, 0, 0, 0, 0, 0, 0, 0, 0, 0, 0, 0, 0, 0, 0, 0, 0, 0, 0, 0, 0, 0, 0, 0, 0, 0, 0, 0, 0, 0, 0, 0, 0, 0, 0, 0, 0, 0, 0, 0, 0, 0, 0, 0, 0, 0, 0, 0, 0, 0, 0, 0, 0, 0, 0, 0, 0, 0, 0, 0, 0, 0, 0, 0, 0, 0, 0, 0, 0, 0, 0, 0, 0, 0, 0, 0, 0, 0, 0, 0, 0, 0, 0, 0, 0, 0, 0, 0, 0, 0, 0, 0, 0, 0, 0, 0,
 0, 0, 0]), .eqN (ksLaw (List.take 16 (over [0, 0, 0, 0, 0, 0, 0, 0, 0, 0, 0, 0, 0, 0, 0, 0, 0, 0, 0, 0, 0, 0, 0, 0, 0, 0, 0, 0, 0, 0, 0, 0, 0, 0, 0, 0, 0, 0, 0, 0, 0, 0, 0, 0, 0, 0, 0, 0, 0, 0, 0, 0, 0, 0, 0, 0, 0, 0, 0, 0, 0, 0, 0, 0, 0, 0, 0, 0, 0, 0, 0, 0, 0, 0, 0, 0, 0, 0, 0, 0, 0, 0, 0, 0, 0, 0, 0, 0, 0, 0, 0, 0, 0, 0, 0, 0, 0, 0, 0, 0, 0, 0, 0, 0, 0, 0, 0, 0, 0, 0, 0, 0, 0, 0, 0, 0, 0, 0, 0,
 0, 0, 0, 0, 0, 0, 0, 0, 0, 0, 0, 0, 0, 0, 0, 0, 0, 0, 0, 0, 0, 0, 0, 0, 0, 0, 0, 0, 0, 0, 0, 0, 0, 0, 0, 0, 0, 0, 0, 0, 0, 0, 0, 0, 0, 0, 0, 0, 0, 0, 0, 0, 0, 0, 0, 0, 0] 0 (List.take 16 (dropO off ks)))) 176).length 176, .eqN (ksLaw (List.take 16 (over [0, 0, 0, 0, 0, 0, 0, 0, 0, 0, 0, 0, 0, 0, 0, 0, 0, 0, 0, 0, 0, 0, 0, 0, 0, 0, 0, 0, 0, 0, 0, 0, 0, 0, 0, 0, 0, 0, 0, 0, 0, 0, 0, 0, 0, 0, 0, 0, 0,
 0, 0, 0, 0, 0, 0, 0, 0, 0, 0, 0, 0, 0, 0, 0, 0, 0, 0, 0, 0, 0, 0, 0, 0, 0, 0, 0, 0, 0, 0, 0, 0, 0, 0, 0, 0, 0, 0, 0, 0, 0, 0, 0, 0, 0, 0, 0, 0, 0, 0, 0, 0, 0, 0, 0, 0, 0, 0, 0, 0, 0, 0, 0, 0, 0, 0, 0, 0, 0, 0, 0, 0, 0, 0, 0, 0, 0, 0, 0, 0, 0, 0, 0, 0, 0, 0, 0, 0, 0, 0, 0, 0, 0, 0, 0, 0, 0, 0, 0, 0, 0, 0, 0, 0, 0, 0, 0, 0, 0, 0, 0, 0, 0, 0, 0, 0, 0, 0, 0, 0, 0, 0, 0, 0, 0, 0, 0] 0 (List.take 16
 (dropO off ks)))) 176).length 176, .eqN (ksLaw (List.take 16 (over [0, 0, 0, 0, 0, 0, 0, 0, 0, 0, 0, 0, 0, 0, 0, 0, 0, 0, 0, 0, 0, 0, 0, 0, 0, 0, 0, 0, 0, 0, 0, 0, 0, 0, 0, 0, 0, 0, 0, 0, 0, 0, 0, 0, 0, 0, 0, 0, 0, 0, 0, 0, 0, 0, 0, 0, 0, 0, 0, 0, 0, 0, 0, 0, 0, 0, 0, 0, 0, 0, 0, 0, 0, 0, 0, 0, 0, 0, 0, 0, 0, 0, 0, 0, 0, 0, 0, 0, 0, 0, 0, 0, 0, 0, 0, 0, 0, 0, 0, 0, 0, 0, 0, 0, 0, 0, 0, 0, 0, 0, 0,
 0, 0, 0, 0, 0, 0, 0, 0, 0, 0, 0, 0, 0, 0, 0, 0, 0, 0, 0, 0, 0, 0, 0, 0, 0, 0, 0, 0, 0, 0, 0, 0, 0, 0, 0, 0, 0, 0, 0, 0, 0, 0, 0, 0, 0, 0, 0, 0, 0, 0, 0, 0, 0, 0, 0, 0, 0, 0, 0, 0, 0, 0, 0, 0, 0] 0 (List.take 16 (dropO off ks)))) 176).length 176]) : OkR (R41 tb ks g g' off cp ow ow') := OkR.dem (fl := bitsF 25 15350271) (by kernel_rfl) (by kernel_rfl) (by kernel_rfl) h
theorem R41_val {tb ks : List Int} {g g' off : Nat} {cp : Option Nat} {ow ow' : Bool} : (R41 tb ks g g' off cp ow ow').val = .ints .u8 (ksLaw (List.take 16 (over [0, 0, 0, 0, 0, 0, 0, 0, 0, 0, 0, 0, 0, 0, 0, 0, 0, 0, 0, 0, 0, 0, 0, 0, 0, 0, 0, 0, 0, 0, 0, 0, 0, 0, 0, 0, 0, 0, 0, 0, 0, 0, 0, 0, 0, 0, 0, 0, 0, 0, 0, 0, 0, 0, 0, 0, 0, 0, 0, 0, 0, 0, 0, 0, 0, 0, 0, 0, 0, 0, 0, 0, 0, 0, 0, 0, 0, 0, 0,
 0, 0, 0, 0, 0, 0, 0, 0, 0, 0, 0, 0, 0, 0, 0, 0, 0, 0, 0, 0, 0, 0, 0, 0, 0, 0, 0, 0, 0, 0, 0, 0, 0, 0, 0, 0, 0, 0, 0, 0, 0, 0, 0, 0, 0, 0, 0, 0, 0, 0, 0, 0, 0, 0, 0, 0, 0, 0, 0, 0, 0, 0, 0, 0, 0, 0, 0, 0, 0, 0, 0, 0, 0, 0, 0, 0, 0, 0, 0, 0, 0, 0, 0, 0, 0, 0, 0, 0, 0, 0, 0, 0, 0, 0, 0, 0, 0] 0 (List.take 16 (dropO off ks)))) 176) := by kernel_rfl
theorem R41_tab {tb ks : List Int} {g g' off : Nat} {cp : Option Nat} {ow ow' : Bool} : (R41 tb ks g g' off cp ow ow').tab = [some ⟨.ints .u8 tb, g, ow, 72⟩, some ⟨.ints .u8 ks, g', ow', 5⟩, some ⟨.ints .u8 (ksLaw (List.take 16 (over [0, 0, 0, 0, 0, 0, 0, 0, 0, 0, 0, 0, 0, 0, 0, 0, 0, 0, 0, 0, 0, 0, 0, 0, 0, 0, 0, 0, 0, 0, 0, 0, 0, 0, 0, 0, 0, 0, 0, 0, 0, 0, 0, 0, 0, 0, 0, 0, 0, 0, 0, 0, 0, 0, 0,
 0, 0, 0, 0, 0, 0, 0, 0, 0, 0, 0, 0, 0, 0, 0, 0, 0, 0, 0, 0, 0, 0, 0, 0, 0, 0, 0, 0, 0, 0, 0, 0, 0, 0, 0, 0, 0, 0, 0, 0, 0, 0, 0, 0, 0, 0, 0, 0, 0, 0, 0, 0, 0, 0, 0, 0, 0, 0, 0, 0, 0, 0, 0, 0, 0, 0, 0, 0, 0, 0, 0, 0, 0, 0, 0, 0, 0, 0, 0, 0, 0, 0, 0, 0, 0, 0, 0, 0, 0, 0, 0, 0, 0, 0, 0, 0, 0, 0, 0, 0, 0, 0, 0, 0, 0, 0, 0, 0, 0, 0, 0, 0, 0, 0, 0, 0, 0, 0, 0, 0, 0] 0 (List.take 16 (dropO off ks))))
 176), 0, true, 49⟩, some ⟨.ints .u8 (ksLaw (List.take 16 (over [0, 0, 0, 0, 0, 0, 0, 0, 0, 0, 0, 0, 0, 0, 0, 0, 0, 0, 0, 0, 0, 0, 0, 0, 0, 0, 0, 0, 0, 0, 0, 0, 0, 0, 0, 0, 0, 0, 0, 0, 0, 0, 0, 0, 0, 0, 0, 0, 0, 0, 0, 0, 0, 0, 0, 0, 0, 0, 0, 0, 0, 0, 0, 0, 0, 0, 0, 0, 0, 0, 0, 0, 0, 0, 0, 0, 0, 0, 0, 0, 0, 0, 0, 0, 0, 0, 0, 0, 0, 0, 0, 0, 0, 0, 0, 0, 0, 0, 0, 0, 0, 0, 0, 0, 0, 0, 0, 0, 0, 0, 0, 0,
 0, 0, 0, 0, 0, 0, 0, 0, 0, 0, 0, 0, 0, 0, 0, 0, 0, 0, 0, 0, 0, 0, 0, 0, 0, 0, 0, 0, 0, 0, 0, 0, 0, 0, 0, 0, 0, 0, 0, 0, 0, 0, 0, 0, 0, 0, 0, 0, 0, 0, 0, 0, 0, 0, 0, 0, 0, 0, 0, 0, 0, 0, 0, 0] 0 (List.take 16 (dropO off ks)))) 176), 0, true, 49⟩] := by kernel_rfl
end Go.Abs

set_option linter.unusedVariables false
set_option linter.unusedSimpArgs false
set_option maxRecDepth 8000
namespace Go.Abs
open Go.Proofs.Try
def subLaw (zs : List Int) (off n : Nat) : List Int := (zs.drop off).take n
theorem subLaw_len {zs : List Int} {off n : Nat} (h : off + n ≤ zs.length) : (subLaw zs off n).length = n := by simp [subLaw]; omega
theorem over16t (zs l : List Int) (h : l.length = 16) : List.take 16 (over zs 0 l) = l := by
  unfold over
  rw [List.take_zero, List.nil_append, List.take_append_of_le_length (by omega), List.take_of_length_le (by omega)]
theorem over16' (zs l : List Int) (h : l.length = 16) (hz : zs.drop 16 = List.replicate 160 0) (hb : Bytes l) : (List.take 16 (over zs 0 l)).length = 16 ∧ Bytes (List.take 16 (over zs 0 l)) ∧ List.drop 16 (over zs 0 l) = List.replicate 160 0 := by
  rw [over16t zs l h]
  refine ⟨h, hb, ?_⟩
  unfold over
  rw [List.take_zero, List.nil_append, Nat.zero_add, h, List.drop_append_of_le_length (by omega), List.drop_of_length_le (by omega), List.nil_append, hz]
def sm41 : Summary := fun args T => match args, T with
  | [.var 0 g, .slice 1 1 g' off 16 cp], [some ⟨.ints .u8 tb, gg, ow, 72⟩, some ⟨.ints .u8 ks, gg', ow', 5⟩] =>
    ⟨[.eqN g gg, .eqN g' gg', .leN (off + 16) ks.length, .p (tb = TABLaw), .p (Bytes (subLaw ks off 16))], .ints .u8 (ksLaw (subLaw ks off 16) 176), [some ⟨.ints .u8 tb, gg, ow, 72⟩, some ⟨.ints .u8 ks, gg', ow', 5⟩]⟩
  | _, _ => fail
theorem sm41_ok : SmOk prog (fun _ => none) 41 sm41 := by
  intro args T hc
  unfold sm41 at hc ⊢
  split at hc
  · rename_i g g' off cp tb gg ow ks gg' ow'
    obtain ⟨h1, h2, h3, h4, h5, _⟩ := hc
    simp only [Con.h] at h1 h2 h3 h4 h5
    subst h1 h2 h4
    have hl := subLaw_len h3
    have hl' : (List.take 16 (dropO off ks)).length = 16 := by rw [dropO_eq]; exact hl
    have hb' : Bytes (List.take 16 (dropO off ks)) := by rw [dropO_eq]; exact h5
    have h := small_of (R := R41 TABLaw ks g g' off cp ow ow') eH_ok hmA (f := 41) (fn := f41) (by kernel_rfl) (by kernel_rfl) orc41_ok rfl (R41_ok ?_) (R41_val.trans (by rw [over16t _ _ hl'])) R41_tab
    · have h2 := small_drop h
      rw [dropO_eq] at h2
      exact h2
    · refine ⟨rfl, h3, rfl, rfl, over16' _ _ hl' ?_ hb', ?_⟩
      · kernel_rfl
      · rw [over16t _ _ hl']
        have hk := ksLaw_len hl' (n := 176) (by omega)
        simp only [allP, Con.h, hk, and_true]
  · exact absurd hc nofail
def S41 : Summary := callR sm41 []
theorem S41_ok : SumOk prog (fun _ => none) 41 S41 := callR_ok sm41_ok []
end Go.Abs

set_option linter.unusedVariables false
set_option linter.unusedSimpArgs false
set_option maxRecDepth 8000
namespace Go.Abs
open Go.Proofs.Try
/-! ### keys, of the document -/
noncomputable def eJ : Env := eA [(67, S67)]
theorem eJ_ok : EnvOk eJ := envOf_ok tysA_ok (SumsOk.cons (fn := f67) S67_ok (by kernel_rfl) (by kernel_rfl) (by kernel_rfl) trivial)
def w4Law (xs : List Int) (m : Nat) (ts : List Int) : Nat → List Int
  | 0 => xs
  | k + 1 => w4Law xs m ts k ++ [ixor ((w4Law xs m ts k).getD (4 * m - 16 + k) 0) (ts.getD k 0)]
theorem w4Law_len (xs : List Int) (m : Nat) (ts : List Int) : ∀ k, (w4Law xs m ts k).length = xs.length + k
  | 0 => rfl
  | k + 1 => by simp [w4Law, w4Law_len xs m ts k]; omega
theorem w4Law_bytes {xs : List Int} {m : Nat} {ts : List Int} (hx : Bytes xs) (ht : Bytes ts) : ∀ k, Bytes (w4Law xs m ts k)
  | 0 => hx
  | k + 1 => (w4Law_bytes hx ht k).append (.one (ixor_lt8 ((w4Law_bytes hx ht k).get _) (ht.get _)))
theorem ks_get {key : List Int} (hk : key.length = 16) {n p : Nat} (hn : 16 ≤ n) (hp : p < n) : ∀ d, (ksLaw key (n + d)).getD p 0 = (ksLaw key n).getD p 0
  | 0 => rfl
  | d + 1 => by
    rw [← Nat.add_assoc, ksLaw_succ (by omega), List.getD_eq_getElem?_getD, List.getElem?_append_left (by rw [ksLaw_len hk (by omega)]; omega), ← List.getD_eq_getElem?_getD, ks_get hk hn hp d]
def tsLaw (w : List Int) (m : Nat) (c : Int) : List Int := if m % 4 = 0 then [ixor (boxLaw (w.getD (4 * m - 4 + 1) 0)) c, boxLaw (w.getD (4 * m - 4 + 2) 0), boxLaw (w.getD (4 * m - 4 + 3) 0), boxLaw (w.getD (4 * m - 4 + 0) 0)] else [w.getD (4 * m - 4 + 0) 0, w.getD (4 * m - 4 + 1) 0, w.getD (4 * m - 4 + 2) 0, w.getD (4 * m - 4 + 3) 0]
theorem ts_next {key : List Int} (hk : key.length = 16) {m : Nat} (hm : 4 ≤ m) : ∀ k, k ≤ 4 → w4Law (ksLaw key (4 * m)) m (tsLaw (ksLaw key (4 * m)) m (rcLaw ((m - 1) / 4))) k = ksLaw key (4 * m + k)
  | 0, _ => rfl
  | k + 1, h => by
    rw [w4Law, ts_next hk hm k (by omega), ← Nat.add_assoc, ksLaw_succ (by omega), kNextLaw_eq (by omega)]
    have g := fun p hp => ks_get hk (n := 4 * m) (p := p) (by omega) hp k
    rw [show 4 * m + k - 16 = 4 * m - 16 + k by omega]
    refine congrArg (fun y => ksLaw key (4 * m + k) ++ [ixor ((ksLaw key (4 * m + k)).getD (4 * m - 16 + k) 0) y]) ?_
    unfold tsLaw
    by_cases h0 : m % 4 = 0
    · rw [if_pos h0]
      by_cases hk0 : k = 0
      · subst hk0
        rw [if_pos (by omega), g _ (by omega), show 4 * m + 0 - 3 = 4 * m - 4 + 1 by omega, show (4 * m + 0) / 16 - 1 = (m - 1) / 4 by omega]
        rfl
      · rw [if_neg (by omega), if_pos (by omega), g _ (by omega)]
        match k, hk0, h with
        | 1, _, _ => rw [show 16 * ((4 * m + 1) / 16) - 4 + ((4 * m + 1) % 16 + 1) % 4 = 4 * m - 4 + 2 by omega]; rfl
        | 2, _, _ => rw [show 16 * ((4 * m + 2) / 16) - 4 + ((4 * m + 2) % 16 + 1) % 4 = 4 * m - 4 + 3 by omega]; rfl
        | 3, _, _ => rw [show 16 * ((4 * m + 3) / 16) - 4 + ((4 * m + 3) % 16 + 1) % 4 = 4 * m - 4 + 0 by omega]; rfl
    · rw [if_neg h0, if_neg (by omega), if_neg (by omega), g _ (by omega)]
      match k, h with
      | 0, _ => rw [show 4 * m + 0 - 4 = 4 * m - 4 + 0 by omega]; rfl
      | 1, _ => rw [show 4 * m + 1 - 4 = 4 * m - 4 + 1 by omega]; rfl
      | 2, _ => rw [show 4 * m + 2 - 4 = 4 * m - 4 + 2 by omega]; rfl
      | 3, _ => rw [show 4 * m + 3 - 4 = 4 * m - 4 + 3 by omega]; rfl
theorem times_two : ∀ x : Int, 0 ≤ x ∧ x < 256 → timesLaw x 2 = dblLaw x := by
  have : ((List.range 256).all fun x : Nat => timesLaw (x : Int) 2 == dblLaw x) = true := by kernel_rfl
  intro x hx
  obtain ⟨n, rfl⟩ := Int.eq_ofNat_of_zero_le hx.1
  simpa using List.all_eq_true.1 this n (List.mem_range.2 (by omega))

noncomputable def C42a (i k c : Int) (ks bx xs ts : List Int) (g0 g1 g gt n nt : Nat) (ow0 ow1 : Bool) (cp ct : Option Nat) : Out := trim 4 4 [1,5,6,7,8,9] (run eJ 79 ⟨4, []⟩ 400 (roundOf 2 f42) [(1, .slice 1 1 g1 0 256 cp), (5, .slice 1 2 g 0 n none), (6, .int .u8 c), (7, .int .i64 i), (8, .slice 1 3 gt 0 nt ct), (9, .int .i64 k)] [some ⟨.ints .u8 ks, g0, ow0, 5⟩, some ⟨.ints .u8 bx, g1, ow1, 5⟩, some ⟨.ints .u8 xs, g, true, 5⟩, some ⟨.ints .u8 ts, gt, true, 5⟩] [some true])
theorem C42a_ok {i k c : Int} {ks bx xs ts : List Int} {g0 g1 g gt n nt : Nat} {ow0 ow1 : Bool} {cp ct : Option Nat} (h : allP [.p (decide (k < 4) = true), .rng (-9223372036854775808) (4 * i) 9223372036854775807, .rng (-9223372036854775808) (4 * i - 16) 9223372036854775807, .rng (-9223372036854775808) (4 * i - 16 + k) 9223372036854775807, .eqN g g, .leI 0 (4 * i - 16 + k), .leI (4 * i - 16 + k + 1)
 (↑n : Int), .eqN g g, .leN ((4 * i - 16 + k).toNat + 1) xs.length, .eqN gt gt, .leI 0 k, .leI (k + 1) (↑nt : Int), .eqN gt gt, .leN (k.toNat + 1) ts.length, .nn .u8 (xs.getD (4 * i - 16 + k).toNat 0), .nn .u8 (ts.getD k.toNat 0), .eqN g g, .leN (0 + n) xs.length, .leN (addO n 1) 140737488355328, .rng (-9223372036854775808) (k + 1) 9223372036854775807]) : Ok (C42a i k c ks bx xs ts g0 g1 g gt n nt
 ow0 ow1 cp ct) := Ok.dem (fl := bitsF 29 118358016) (by kernel_rfl) (by kernel_rfl) (by kernel_rfl) h
theorem C42a_ex {i k c : Int} {ks bx xs ts : List Int} {g0 g1 g gt n nt : Nat} {ow0 ow1 : Bool} {cp ct : Option Nat} : (C42a i k c ks bx xs ts g0 g1 g gt n nt ow0 ow1 cp ct).ex = .normal := by kernel_rfl
theorem C42a_fm {i k c : Int} {ks bx xs ts : List Int} {g0 g1 g gt n nt : Nat} {ow0 ow1 : Bool} {cp ct : Option Nat} : (C42a i k c ks bx xs ts g0 g1 g gt n nt ow0 ow1 cp ct).fm = [(1, .slice 1 1 g1 0 256 cp), (5, .slice 1 2 (g + 1) 0 (addO n 1) none), (6, .int .u8 c), (7, .int .i64 i), (8, .slice 1 3 gt 0 nt ct), (9, .int .i64 (k + 1))] := by kernel_rfl
theorem C42a_tab {i k c : Int} {ks bx xs ts : List Int} {g0 g1 g gt n nt : Nat} {ow0 ow1 : Bool} {cp ct : Option Nat} : (C42a i k c ks bx xs ts g0 g1 g gt n nt ow0 ow1 cp ct).tab = [some ⟨.ints .u8 ks, g0, ow0, 5⟩, some ⟨.ints .u8 bx, g1, ow1, 5⟩, some ⟨.ints .u8 (List.take n xs ++ [ixor (xs.getD (4 * i - 16 + k).toNat 0) (ts.getD k.toNat 0)]), g + 1, true, 5⟩, some ⟨.ints .u8 ts, gt, true, 5⟩] :=
 by kernel_rfl
noncomputable def D42a (i k c : Int) (ks bx xs ts : List Int) (g0 g1 g gt n nt : Nat) (ow0 ow1 : Bool) (cp ct : Option Nat) : Out := trim 4 4 [1,5,6,7] (run eJ 79 ⟨4, []⟩ 400 (roundOf 2 f42) [(1, .slice 1 1 g1 0 256 cp), (5, .slice 1 2 g 0 n none), (6, .int .u8 c), (7, .int .i64 i), (8, .slice 1 3 gt 0 nt ct), (9, .int .i64 k)] [some ⟨.ints .u8 ks, g0, ow0, 5⟩, some ⟨.ints .u8 bx, g1, ow1, 5⟩, some ⟨.ints .u8 xs, g, true, 5⟩, some ⟨.ints .u8 ts, gt, true, 5⟩] [some false])
theorem D42a_ok {i k c : Int} {ks bx xs ts : List Int} {g0 g1 g gt n nt : Nat} {ow0 ow1 : Bool} {cp ct : Option Nat} (h : allP [.p (decide (k < 4) = false)]) : Ok (D42a i k c ks bx xs ts g0 g1 g gt n nt ow0 ow1 cp ct) := Ok.dem (fl := [false]) (by kernel_rfl) (by kernel_rfl) (by kernel_rfl) h
theorem D42a_ex {i k c : Int} {ks bx xs ts : List Int} {g0 g1 g gt n nt : Nat} {ow0 ow1 : Bool} {cp ct : Option Nat} : (D42a i k c ks bx xs ts g0 g1 g gt n nt ow0 ow1 cp ct).ex = .exit 2 := by kernel_rfl
theorem D42a_fm {i k c : Int} {ks bx xs ts : List Int} {g0 g1 g gt n nt : Nat} {ow0 ow1 : Bool} {cp ct : Option Nat} : (D42a i k c ks bx xs ts g0 g1 g gt n nt ow0 ow1 cp ct).fm = [(1, .slice 1 1 g1 0 256 cp), (5, .slice 1 2 g 0 n none), (6, .int .u8 c), (7, .int .i64 i)] := by kernel_rfl
theorem D42a_tab {i k c : Int} {ks bx xs ts : List Int} {g0 g1 g gt n nt : Nat} {ow0 ow1 : Bool} {cp ct : Option Nat} : (D42a i k c ks bx xs ts g0 g1 g gt n nt ow0 ow1 cp ct).tab = [some ⟨.ints .u8 ks, g0, ow0, 5⟩, some ⟨.ints .u8 bx, g1, ow1, 5⟩, some ⟨.ints .u8 xs, g, true, 5⟩, some ⟨.ints .u8 ts, gt, true, 5⟩] := by kernel_rfl
def F42a (m n : Nat) (c : Int) (g1 g gt : Nat) (cp ct : Option Nat) (k : Nat) : Fm := [(1, .slice 1 1 g1 0 256 cp), (5, .slice 1 2 (g + k) 0 (n + k) none), (6, .int .u8 c), (7, .int .i64 m), (8, .slice 1 3 gt 0 4 ct), (9, .int .i64 k)]
def T42a (m : Nat) (ks bx xs ts : List Int) (g0 g1 g gt : Nat) (ow0 ow1 : Bool) (k : Nat) : Tab := [some ⟨.ints .u8 ks, g0, ow0, 5⟩, some ⟨.ints .u8 bx, g1, ow1, 5⟩, some ⟨.ints .u8 (w4Law xs m ts k), g + k, true, 5⟩, some ⟨.ints .u8 ts, gt, true, 5⟩]
theorem loop42a {m : Nat} {c : Int} {ks bx xs ts : List Int} {g0 g1 g gt : Nat} {ow0 ow1 : Bool} {cp ct : Option Nat} (hm : 4 ≤ m) (hm2 : m < 44) (hx : xs.length = 4 * m) (hb : Bytes xs) (ht : ts.length = 4) (htb : Bytes ts) :
    To eJ 79 4 (.block 2 (.loop (roundOf 2 f42))) (F42a m (4 * m) c g1 g gt cp ct 0) (T42a m ks bx xs ts g0 g1 g gt ow0 ow1 0) .normal [(1, .slice 1 1 g1 0 256 cp), (5, .slice 1 2 (g + 4) 0 (4 * m + 4) none), (6, .int .u8 c), (7, .int .i64 m)] (T42a m ks bx xs ts g0 g1 g gt ow0 ow1 4) := by
  refine To.rounds (F42a m (4 * m) c g1 g gt cp ct) (T42a m ks bx xs ts g0 g1 g gt ow0 ow1) 4 (fun k hk => ?_) ?_
  · have hl := w4Law_len xs m ts k
    have hb' := w4Law_bytes (m := m) hb htb k
    have e1 : (4 * (m : Int) - 16 + k).toNat = 4 * m - 16 + k := by omega
    refine To.of (o := C42a m k c ks bx (w4Law xs m ts k) ts g0 g1 (g + k) gt (4 * m + k) 4 ow0 ow1 cp ct) eJ_ok hmA (Nat.le_refl 4) OrcOk.nil rfl (C42a_ok ?_) C42a_ex ?_ ?_
    · simp only [allP, Con.h, hl, hx, ht, addO_eq, decide_eq_true_eq, eq_self, true_and, and_true, e1, Int.toNat_natCast]
      have q1 := hb'.get (4 * m - 16 + k)
      have q2 := htb.get k
      repeat' with_reducible apply And.intro
      all_goals first | omega | exact q1 | exact q2
    · rw [C42a_fm, addO_eq]; rfl
    · rw [C42a_tab, List.take_of_length_le (by omega), e1, Int.toNat_natCast]; rfl
  · exact To.of (o := D42a m (4 : Nat) c ks bx (w4Law xs m ts 4) ts g0 g1 (g + 4) gt (4 * m + 4) 4 ow0 ow1 cp ct) eJ_ok hmA (Nat.le_refl 4) OrcOk.nil rfl (D42a_ok (by simp [allP, Con.h])) D42a_ex D42a_fm D42a_tab
def g42a : List AVal → Tab → Out := fun vs T => match vs, T with
  | [.slice 1 1 g1 0 256 cp, .slice 1 2 g 0 n none, .int .u8 c, .int .i64 i, .slice 1 3 gt 0 nt ct, .int .i64 k], [some ⟨.ints .u8 ks, g0, ow0, 5⟩, some ⟨.ints .u8 bx, g1', ow1, 5⟩, some ⟨.ints .u8 xs, g', true, 5⟩, some ⟨.ints .u8 ts, gt', true, 5⟩] =>
    ⟨[.eqN g1 g1', .eqN g g', .eqN gt gt', .eqN nt 4, .rng 0 k 0, .rng 4 i 43, .eqN xs.length n, .p (n = 4 * i.toNat), .eqN ts.length 4, .p (Bytes xs), .p (Bytes ts)], .normal, [(1, .slice 1 1 g1 0 256 cp), (5, .slice 1 2 (g + 4) 0 (n + 4) none), (6, .int .u8 c), (7, .int .i64 i)],
      [some ⟨.ints .u8 ks, g0, ow0, 5⟩, some ⟨.ints .u8 bx, g1', ow1, 5⟩, some ⟨.ints .u8 (w4Law xs i.toNat ts 4), g + 4, true, 5⟩, some ⟨.ints .u8 ts, gt', true, 5⟩], []⟩
  | _, _ => failO
theorem g42a_ok : BlkOk eJ f42 2 (.loop (roundOf 2 f42)) (blkS 4 [1,5,6,7,8,9] g42a) := by
  refine blkS_ok fun vs T h => ?_
  unfold g42a at h ⊢
  split at h
  · rename_i g1 cp g n c i gt nt ct k ks g0 ow0 bx g1' ow1 xs g' ts gt'
    obtain ⟨h1, h2, h3, h4, h5, h6, h7, h8, h9, h10, h11, _⟩ := h.h
    simp only [Con.h] at h1 h2 h3 h4 h5 h6 h7 h8 h9 h10 h11
    obtain rfl : k = 0 := by omega
    obtain ⟨m, rfl⟩ : ∃ m : Nat, i = m := ⟨i.toNat, by omega⟩
    rw [Int.toNat_natCast] at h8
    subst h1 h2 h3 h4 h8
    exact loop42a (by omega) (by omega) h7 h10 h9 h11
  · exact absurd h nofailO
noncomputable def A42a (i c : Int) (ks bx xs : List Int) (g0 g1 g n : Nat) (ow0 ow1 : Bool) (cp : Option Nat) : Out := trim 3 3 [1,5,6,7] (run eJ 79 ⟨3, [(2, blkS 4 [1,5,6,7,8,9] g42a)]⟩ 400 (roundOf 0 f42) [(1, .slice 1 1 g1 0 256 cp), (5, .slice 1 2 g 0 n none), (6, .int .u8 c), (7, .int .i64 i)] [some ⟨.ints .u8 ks, g0, ow0, 5⟩, some ⟨.ints .u8 bx, g1, ow1, 5⟩, some ⟨.ints .u8 xs, g, true, 5⟩] [some true, some false])
theorem A42a_ok {i c : Int} {ks bx xs : List Int} {g0 g1 g n : Nat} {ow0 ow1 : Bool} {cp : Option Nat} (h : allP [.p (decide (i < 44) = true), .rng (-9223372036854775808) (4 * i) 9223372036854775807, .rng (-9223372036854775808) (4 * i - 4) 9223372036854775807, .rng (-9223372036854775808) (4 * i) 9223372036854775807, .leI 0 (4 * i - 4), .leI 0 (4 * i), .eqN g g, .leN (4 * i - 4).toNat (4 * i).toNat,
 .orN (4 * i).toNat n (0 + (4 * i).toNat) xs.length, .leN (subO (4 * i).toNat (4 * i - 4).toNat) 140737488355328, .eqN g g, .leN ((4 * i - 4).toNat + subO (4 * i).toNat (4 * i - 4).toNat) xs.length, .p ((i.tmod 4 == 0) = false), .eqN g1 g1, .eqN g g, .eqN (subO (4 * i).toNat (4 * i - 4).toNat) 4, .rng 4 i 43, .eqN xs.length n, .p (n = 4 * i.toNat), .eqN ([] ++ List.take (subO (4 * i).toNat (4 * i -
 4).toNat) (dropO (4 * i - 4).toNat xs)).length 4, .p (Bytes xs), .p (Bytes ([] ++ List.take (subO (4 * i).toNat (4 * i - 4).toNat) (dropO (4 * i - 4).toNat xs))), .rng (-9223372036854775808) (i + 1) 9223372036854775807]) : Ok (A42a i c ks bx xs g0 g1 g n ow0 ow1 cp) := Ok.dem (fl := bitsF 30 5344258) (by kernel_rfl) (by kernel_rfl) (by kernel_rfl) h
theorem A42a_ex {i c : Int} {ks bx xs : List Int} {g0 g1 g n : Nat} {ow0 ow1 : Bool} {cp : Option Nat} : (A42a i c ks bx xs g0 g1 g n ow0 ow1 cp).ex = .normal := by kernel_rfl
theorem A42a_fm {i c : Int} {ks bx xs : List Int} {g0 g1 g n : Nat} {ow0 ow1 : Bool} {cp : Option Nat} : (A42a i c ks bx xs g0 g1 g n ow0 ow1 cp).fm = [(1, .slice 1 1 g1 0 256 cp), (5, .slice 1 2 (g + 4) 0 (n + 4) none), (6, .int .u8 c), (7, .int .i64 (i + 1))] := by kernel_rfl
theorem A42a_tab {i c : Int} {ks bx xs : List Int} {g0 g1 g n : Nat} {ow0 ow1 : Bool} {cp : Option Nat} : (A42a i c ks bx xs g0 g1 g n ow0 ow1 cp).tab = [some ⟨.ints .u8 ks, g0, ow0, 5⟩, some ⟨.ints .u8 bx, g1, ow1, 5⟩, some ⟨.ints .u8 (w4Law xs i.toNat ([] ++ List.take (subO (4 * i).toNat (4 * i - 4).toNat) (dropO (4 * i - 4).toNat xs)) 4), g + 4, true, 5⟩] := by kernel_rfl
noncomputable def C42b (i k c : Int) (ks bx xs us ts : List Int) (g0 g1 g gt n nt : Nat) (ow0 ow1 : Bool) (cp ct : Option Nat) : Out := trim 5 5 [1,5,6,7,8,9] (run eJ 79 ⟨5, []⟩ 400 (roundOf 2 f42) [(1, .slice 1 1 g1 0 256 cp), (5, .slice 1 2 g 0 n none), (6, .int .u8 c), (7, .int .i64 i), (8, .slice 1 4 gt 0 nt ct), (9, .int .i64 k)] [some ⟨.ints .u8 ks, g0, ow0, 5⟩, some ⟨.ints .u8 bx, g1, ow1, 5⟩, some ⟨.ints .u8 xs, g, true, 5⟩, some ⟨.ints .u8 us, 1, true, 5⟩, some ⟨.ints .u8 ts, gt, true, 5⟩] [some true])
theorem C42b_ok {i k c : Int} {ks bx xs us ts : List Int} {g0 g1 g gt n nt : Nat} {ow0 ow1 : Bool} {cp ct : Option Nat} (h : allP [.p (decide (k < 4) = true), .rng (-9223372036854775808) (4 * i) 9223372036854775807, .rng (-9223372036854775808) (4 * i - 16) 9223372036854775807, .rng (-9223372036854775808) (4 * i - 16 + k) 9223372036854775807, .eqN g g, .leI 0 (4 * i - 16 + k), .leI (4 * i - 16 + k +
 1) (↑n : Int), .eqN g g, .leN ((4 * i - 16 + k).toNat + 1) xs.length, .eqN gt gt, .leI 0 k, .leI (k + 1) (↑nt : Int), .eqN gt gt, .leN (k.toNat + 1) ts.length, .nn .u8 (xs.getD (4 * i - 16 + k).toNat 0), .nn .u8 (ts.getD k.toNat 0), .eqN g g, .leN (0 + n) xs.length, .leN (addO n 1) 140737488355328, .rng (-9223372036854775808) (k + 1) 9223372036854775807]) : Ok (C42b i k c ks bx xs us ts g0 g1 g gt
 n nt ow0 ow1 cp ct) := Ok.dem (fl := bitsF 29 118358016) (by kernel_rfl) (by kernel_rfl) (by kernel_rfl) h
theorem C42b_ex {i k c : Int} {ks bx xs us ts : List Int} {g0 g1 g gt n nt : Nat} {ow0 ow1 : Bool} {cp ct : Option Nat} : (C42b i k c ks bx xs us ts g0 g1 g gt n nt ow0 ow1 cp ct).ex = .normal := by kernel_rfl
theorem C42b_fm {i k c : Int} {ks bx xs us ts : List Int} {g0 g1 g gt n nt : Nat} {ow0 ow1 : Bool} {cp ct : Option Nat} : (C42b i k c ks bx xs us ts g0 g1 g gt n nt ow0 ow1 cp ct).fm = [(1, .slice 1 1 g1 0 256 cp), (5, .slice 1 2 (g + 1) 0 (addO n 1) none), (6, .int .u8 c), (7, .int .i64 i), (8, .slice 1 4 gt 0 nt ct), (9, .int .i64 (k + 1))] := by kernel_rfl
theorem C42b_tab {i k c : Int} {ks bx xs us ts : List Int} {g0 g1 g gt n nt : Nat} {ow0 ow1 : Bool} {cp ct : Option Nat} : (C42b i k c ks bx xs us ts g0 g1 g gt n nt ow0 ow1 cp ct).tab = [some ⟨.ints .u8 ks, g0, ow0, 5⟩, some ⟨.ints .u8 bx, g1, ow1, 5⟩, some ⟨.ints .u8 (List.take n xs ++ [ixor (xs.getD (4 * i - 16 + k).toNat 0) (ts.getD k.toNat 0)]), g + 1, true, 5⟩, some ⟨.ints .u8 us, 1, true,
 5⟩, some ⟨.ints .u8 ts, gt, true, 5⟩] := by kernel_rfl
noncomputable def D42b (i k c : Int) (ks bx xs us ts : List Int) (g0 g1 g gt n nt : Nat) (ow0 ow1 : Bool) (cp ct : Option Nat) : Out := trim 5 5 [1,5,6,7] (run eJ 79 ⟨5, []⟩ 400 (roundOf 2 f42) [(1, .slice 1 1 g1 0 256 cp), (5, .slice 1 2 g 0 n none), (6, .int .u8 c), (7, .int .i64 i), (8, .slice 1 4 gt 0 nt ct), (9, .int .i64 k)] [some ⟨.ints .u8 ks, g0, ow0, 5⟩, some ⟨.ints .u8 bx, g1, ow1, 5⟩, some ⟨.ints .u8 xs, g, true, 5⟩, some ⟨.ints .u8 us, 1, true, 5⟩, some ⟨.ints .u8 ts, gt, true, 5⟩] [some false])
theorem D42b_ok {i k c : Int} {ks bx xs us ts : List Int} {g0 g1 g gt n nt : Nat} {ow0 ow1 : Bool} {cp ct : Option Nat} (h : allP [.p (decide (k < 4) = false)]) : Ok (D42b i k c ks bx xs us ts g0 g1 g gt n nt ow0 ow1 cp ct) := Ok.dem (fl := [false]) (by kernel_rfl) (by kernel_rfl) (by kernel_rfl) h
theorem D42b_ex {i k c : Int} {ks bx xs us ts : List Int} {g0 g1 g gt n nt : Nat} {ow0 ow1 : Bool} {cp ct : Option Nat} : (D42b i k c ks bx xs us ts g0 g1 g gt n nt ow0 ow1 cp ct).ex = .exit 2 := by kernel_rfl
theorem D42b_fm {i k c : Int} {ks bx xs us ts : List Int} {g0 g1 g gt n nt : Nat} {ow0 ow1 : Bool} {cp ct : Option Nat} : (D42b i k c ks bx xs us ts g0 g1 g gt n nt ow0 ow1 cp ct).fm = [(1, .slice 1 1 g1 0 256 cp), (5, .slice 1 2 g 0 n none), (6, .int .u8 c), (7, .int .i64 i)] := by kernel_rfl
theorem D42b_tab {i k c : Int} {ks bx xs us ts : List Int} {g0 g1 g gt n nt : Nat} {ow0 ow1 : Bool} {cp ct : Option Nat} : (D42b i k c ks bx xs us ts g0 g1 g gt n nt ow0 ow1 cp ct).tab = [some ⟨.ints .u8 ks, g0, ow0, 5⟩, some ⟨.ints .u8 bx, g1, ow1, 5⟩, some ⟨.ints .u8 xs, g, true, 5⟩, some ⟨.ints .u8 us, 1, true, 5⟩, some ⟨.ints .u8 ts, gt, true, 5⟩] := by kernel_rfl
def F42b (m n : Nat) (c : Int) (g1 g gt : Nat) (cp ct : Option Nat) (k : Nat) : Fm := [(1, .slice 1 1 g1 0 256 cp), (5, .slice 1 2 (g + k) 0 (n + k) none), (6, .int .u8 c), (7, .int .i64 m), (8, .slice 1 4 gt 0 4 ct), (9, .int .i64 k)]
def T42b (m : Nat) (ks bx xs us ts : List Int) (g0 g1 g gt : Nat) (ow0 ow1 : Bool) (k : Nat) : Tab := [some ⟨.ints .u8 ks, g0, ow0, 5⟩, some ⟨.ints .u8 bx, g1, ow1, 5⟩, some ⟨.ints .u8 (w4Law xs m ts k), g + k, true, 5⟩, some ⟨.ints .u8 us, 1, true, 5⟩, some ⟨.ints .u8 ts, gt, true, 5⟩]
theorem loop42b {m : Nat} {c : Int} {ks bx xs us ts : List Int} {g0 g1 g gt : Nat} {ow0 ow1 : Bool} {cp ct : Option Nat} (hm : 4 ≤ m) (hm2 : m < 44) (hx : xs.length = 4 * m) (hb : Bytes xs) (ht : ts.length = 4) (htb : Bytes ts) :
    To eJ 79 5 (.block 2 (.loop (roundOf 2 f42))) (F42b m (4 * m) c g1 g gt cp ct 0) (T42b m ks bx xs us ts g0 g1 g gt ow0 ow1 0) .normal [(1, .slice 1 1 g1 0 256 cp), (5, .slice 1 2 (g + 4) 0 (4 * m + 4) none), (6, .int .u8 c), (7, .int .i64 m)] (T42b m ks bx xs us ts g0 g1 g gt ow0 ow1 4) := by
  refine To.rounds (F42b m (4 * m) c g1 g gt cp ct) (T42b m ks bx xs us ts g0 g1 g gt ow0 ow1) 4 (fun k hk => ?_) ?_
  · have hl := w4Law_len xs m ts k
    have hb' := w4Law_bytes (m := m) hb htb k
    have e1 : (4 * (m : Int) - 16 + k).toNat = 4 * m - 16 + k := by omega
    refine To.of (o := C42b m k c ks bx (w4Law xs m ts k) us ts g0 g1 (g + k) gt (4 * m + k) 4 ow0 ow1 cp ct) eJ_ok hmA (Nat.le_refl 5) OrcOk.nil rfl (C42b_ok ?_) C42b_ex ?_ ?_
    · simp only [allP, Con.h, hl, hx, ht, addO_eq, decide_eq_true_eq, eq_self, true_and, and_true, e1, Int.toNat_natCast]
      have q1 := hb'.get (4 * m - 16 + k)
      have q2 := htb.get k
      repeat' with_reducible apply And.intro
      all_goals first | omega | exact q1 | exact q2
    · rw [C42b_fm, addO_eq]; rfl
    · rw [C42b_tab, List.take_of_length_le (by omega), e1, Int.toNat_natCast]; rfl
  · exact To.of (o := D42b m (4 : Nat) c ks bx (w4Law xs m ts 4) us ts g0 g1 (g + 4) gt (4 * m + 4) 4 ow0 ow1 cp ct) eJ_ok hmA (Nat.le_refl 5) OrcOk.nil rfl (D42b_ok (by simp [allP, Con.h])) D42b_ex D42b_fm D42b_tab
def g42b : List AVal → Tab → Out := fun vs T => match vs, T with
  | [.slice 1 1 g1 0 256 cp, .slice 1 2 g 0 n none, .int .u8 c, .int .i64 i, .slice 1 4 gt 0 nt ct, .int .i64 k], [some ⟨.ints .u8 ks, g0, ow0, 5⟩, some ⟨.ints .u8 bx, g1', ow1, 5⟩, some ⟨.ints .u8 xs, g', true, 5⟩, some ⟨.ints .u8 us, gu, true, 5⟩, some ⟨.ints .u8 ts, gt', true, 5⟩] =>
    ⟨[.eqN gu 1, .eqN g1 g1', .eqN g g', .eqN gt gt', .eqN nt 4, .rng 0 k 0, .rng 4 i 43, .eqN xs.length n, .p (n = 4 * i.toNat), .eqN ts.length 4, .p (Bytes xs), .p (Bytes ts)], .normal, [(1, .slice 1 1 g1 0 256 cp), (5, .slice 1 2 (g + 4) 0 (n + 4) none), (6, .int .u8 c), (7, .int .i64 i)],
      [some ⟨.ints .u8 ks, g0, ow0, 5⟩, some ⟨.ints .u8 bx, g1', ow1, 5⟩, some ⟨.ints .u8 (w4Law xs i.toNat ts 4), g + 4, true, 5⟩, some ⟨.ints .u8 us, gu, true, 5⟩, some ⟨.ints .u8 ts, gt', true, 5⟩], []⟩
  | _, _ => failO
theorem g42b_ok : BlkOk eJ f42 2 (.loop (roundOf 2 f42)) (blkS 5 [1,5,6,7,8,9] g42b) := by
  refine blkS_ok fun vs T h => ?_
  unfold g42b at h ⊢
  split at h
  · rename_i g1 cp g n c i gt nt ct k ks g0 ow0 bx g1' ow1 xs g' us gu ts gt'
    obtain ⟨h0, h1, h2, h3, h4, h5, h6, h7, h8, h9, h10, h11, _⟩ := h.h
    simp only [Con.h] at h0 h1 h2 h3 h4 h5 h6 h7 h8 h9 h10 h11
    obtain rfl : k = 0 := by omega
    obtain ⟨m, rfl⟩ : ∃ m : Nat, i = m := ⟨i.toNat, by omega⟩
    rw [Int.toNat_natCast] at h8
    subst h0 h1 h2 h3 h4 h8
    exact loop42b (by omega) (by omega) h7 h10 h9 h11
  · exact absurd h nofailO
noncomputable def A42b (i c : Int) (ks bx xs : List Int) (g0 g1 g n : Nat) (ow0 ow1 : Bool) (cp : Option Nat) : Out := trim 3 3 [1,5,6,7] (run eJ 79 ⟨3, [(2, blkS 5 [1,5,6,7,8,9] g42b)]⟩ 400 (roundOf 0 f42) [(1, .slice 1 1 g1 0 256 cp), (5, .slice 1 2 g 0 n none), (6, .int .u8 c), (7, .int .i64 i)] [some ⟨.ints .u8 ks, g0, ow0, 5⟩, some ⟨.ints .u8 bx, g1, ow1, 5⟩, some ⟨.ints .u8 xs, g, true, 5⟩] [some true, some true])
theorem A42b_ok {i c : Int} {ks bx xs : List Int} {g0 g1 g n : Nat} {ow0 ow1 : Bool} {cp : Option Nat} (h : allP [.p (decide (i < 44) = true), .rng (-9223372036854775808) (4 * i) 9223372036854775807, .rng (-9223372036854775808) (4 * i - 4) 9223372036854775807, .rng (-9223372036854775808) (4 * i) 9223372036854775807, .leI 0 (4 * i - 4), .leI 0 (4 * i), .eqN g g, .leN (4 * i - 4).toNat (4 * i).toNat,
 .orN (4 * i).toNat n (0 + (4 * i).toNat) xs.length, .leN (subO (4 * i).toNat (4 * i - 4).toNat) 140737488355328, .eqN g g, .leN ((4 * i - 4).toNat + subO (4 * i).toNat (4 * i - 4).toNat) xs.length, .p ((i.tmod 4 == 0) = true), .leI 2 (↑(subO (4 * i).toNat (4 * i - 4).toNat) : Int), .leN 2 ([] ++ List.take (subO (4 * i).toNat (4 * i - 4).toNat) (dropO (4 * i - 4).toNat xs)).length, .eqN g1 g1, .leI
 0 (([] ++ List.take (subO (4 * i).toNat (4 * i - 4).toNat) (dropO (4 * i - 4).toNat xs)).getD 1 0), .leI (([] ++ List.take (subO (4 * i).toNat (4 * i - 4).toNat) (dropO (4 * i - 4).toNat xs)).getD 1 0 + 1) 256, .eqN g1 g1, .leN ((([] ++ List.take (subO (4 * i).toNat (4 * i - 4).toNat) (dropO (4 * i - 4).toNat xs)).getD 1 0).toNat + 1) bx.length, .nn .u8 (bx.getD (([] ++ List.take (subO (4 *
 i).toNat (4 * i - 4).toNat) (dropO (4 * i - 4).toNat xs)).getD 1 0).toNat 0), .nn .u8 c, .leI 3 (↑(subO (4 * i).toNat (4 * i - 4).toNat) : Int), .leN 3 ([] ++ List.take (subO (4 * i).toNat (4 * i - 4).toNat) (dropO (4 * i - 4).toNat xs)).length, .eqN g1 g1, .leI 0 (([] ++ List.take (subO (4 * i).toNat (4 * i - 4).toNat) (dropO (4 * i - 4).toNat xs)).getD 2 0), .leI (([] ++ List.take (subO (4 *
 i).toNat (4 * i - 4).toNat) (dropO (4 * i - 4).toNat xs)).getD 2 0 + 1) 256, .eqN g1 g1, .leN ((([] ++ List.take (subO (4 * i).toNat (4 * i - 4).toNat) (dropO (4 * i - 4).toNat xs)).getD 2 0).toNat + 1) bx.length, .leI 4 (↑(subO (4 * i).toNat (4 * i - 4).toNat) : Int), .leN 4 ([] ++ List.take (subO (4 * i).toNat (4 * i - 4).toNat) (dropO (4 * i - 4).toNat xs)).length, .eqN g1 g1, .leI 0 (([] ++
 List.take (subO (4 * i).toNat (4 * i - 4).toNat) (dropO (4 * i - 4).toNat xs)).getD 3 0), .leI (([] ++ List.take (subO (4 * i).toNat (4 * i - 4).toNat) (dropO (4 * i - 4).toNat xs)).getD 3 0 + 1) 256, .eqN g1 g1, .leN ((([] ++ List.take (subO (4 * i).toNat (4 * i - 4).toNat) (dropO (4 * i - 4).toNat xs)).getD 3 0).toNat + 1) bx.length, .leI 1 (↑(subO (4 * i).toNat (4 * i - 4).toNat) : Int), .leN 1
 ([] ++ List.take (subO (4 * i).toNat (4 * i - 4).toNat) (dropO (4 * i - 4).toNat xs)).length, .eqN g1 g1, .leI 0 (([] ++ List.take (subO (4 * i).toNat (4 * i - 4).toNat) (dropO (4 * i - 4).toNat xs)).getD 0 0), .leI (([] ++ List.take (subO (4 * i).toNat (4 * i - 4).toNat) (dropO (4 * i - 4).toNat xs)).getD 0 0 + 1) 256, .eqN g1 g1, .leN ((([] ++ List.take (subO (4 * i).toNat (4 * i - 4).toNat)
 (dropO (4 * i - 4).toNat xs)).getD 0 0).toNat + 1) bx.length, .rng 0 c 255, .eqN g1 g1, .eqN g g, .rng 4 i 43, .eqN xs.length n, .p (n = 4 * i.toNat), .p (Bytes xs), .p (Bytes [ixor (bx.getD (([] ++ List.take (subO (4 * i).toNat (4 * i - 4).toNat) (dropO (4 * i - 4).toNat xs)).getD 1 0).toNat 0) c, bx.getD (([] ++ List.take (subO (4 * i).toNat (4 * i - 4).toNat) (dropO (4 * i - 4).toNat xs)).getD 2
 0).toNat 0, bx.getD (([] ++ List.take (subO (4 * i).toNat (4 * i - 4).toNat) (dropO (4 * i - 4).toNat xs)).getD 3 0).toNat 0, bx.getD (([] ++ List.take (subO (4 * i).toNat (4 * i - 4).toNat) (dropO (4 * i - 4).toNat xs)).getD 0 0).toNat 0]), .rng (-9223372036854775808) (i + 1) 9223372036854775807]) : Ok (A42b i c ks bx xs g0 g1 g n ow0 ow1 cp) := Ok.dem (fl := bitsF 86 5379953734560244930546690)
 (by kernel_rfl) (by kernel_rfl) (by kernel_rfl) h
theorem A42b_ex {i c : Int} {ks bx xs : List Int} {g0 g1 g n : Nat} {ow0 ow1 : Bool} {cp : Option Nat} : (A42b i c ks bx xs g0 g1 g n ow0 ow1 cp).ex = .normal := by kernel_rfl
theorem A42b_fm {i c : Int} {ks bx xs : List Int} {g0 g1 g n : Nat} {ow0 ow1 : Bool} {cp : Option Nat} : (A42b i c ks bx xs g0 g1 g n ow0 ow1 cp).fm = [(1, .slice 1 1 g1 0 256 cp), (5, .slice 1 2 (g + 4) 0 (n + 4) none), (6, .int .u8 (timesLaw c 2)), (7, .int .i64 (i + 1))] := by kernel_rfl
theorem A42b_tab {i c : Int} {ks bx xs : List Int} {g0 g1 g n : Nat} {ow0 ow1 : Bool} {cp : Option Nat} : (A42b i c ks bx xs g0 g1 g n ow0 ow1 cp).tab = [some ⟨.ints .u8 ks, g0, ow0, 5⟩, some ⟨.ints .u8 bx, g1, ow1, 5⟩, some ⟨.ints .u8 (w4Law xs i.toNat [ixor (bx.getD (([] ++ List.take (subO (4 * i).toNat (4 * i - 4).toNat) (dropO (4 * i - 4).toNat xs)).getD 1 0).toNat 0) c, bx.getD (([] ++
 List.take (subO (4 * i).toNat (4 * i - 4).toNat) (dropO (4 * i - 4).toNat xs)).getD 2 0).toNat 0, bx.getD (([] ++ List.take (subO (4 * i).toNat (4 * i - 4).toNat) (dropO (4 * i - 4).toNat xs)).getD 3 0).toNat 0, bx.getD (([] ++ List.take (subO (4 * i).toNat (4 * i - 4).toNat) (dropO (4 * i - 4).toNat xs)).getD 0 0).toNat 0] 4), g + 4, true, 5⟩] := by kernel_rfl
noncomputable def B42 (i c : Int) (ks bx xs : List Int) (g0 g1 g n : Nat) (ow0 ow1 : Bool) (cp : Option Nat) : Out := trim 3 3 [5] (run eJ 79 ⟨3, []⟩ 400 (roundOf 0 f42) [(1, .slice 1 1 g1 0 256 cp), (5, .slice 1 2 g 0 n none), (6, .int .u8 c), (7, .int .i64 i)] [some ⟨.ints .u8 ks, g0, ow0, 5⟩, some ⟨.ints .u8 bx, g1, ow1, 5⟩, some ⟨.ints .u8 xs, g, true, 5⟩] [some false])
theorem B42_ok {i c : Int} {ks bx xs : List Int} {g0 g1 g n : Nat} {ow0 ow1 : Bool} {cp : Option Nat} (h : allP [.p (decide (i < 44) = false)]) : Ok (B42 i c ks bx xs g0 g1 g n ow0 ow1 cp) := Ok.dem (fl := [false]) (by kernel_rfl) (by kernel_rfl) (by kernel_rfl) h
theorem B42_ex {i c : Int} {ks bx xs : List Int} {g0 g1 g n : Nat} {ow0 ow1 : Bool} {cp : Option Nat} : (B42 i c ks bx xs g0 g1 g n ow0 ow1 cp).ex = .exit 0 := by kernel_rfl
theorem B42_fm {i c : Int} {ks bx xs : List Int} {g0 g1 g n : Nat} {ow0 ow1 : Bool} {cp : Option Nat} : (B42 i c ks bx xs g0 g1 g n ow0 ow1 cp).fm = [(5, .slice 1 2 g 0 n none)] := by kernel_rfl
theorem B42_tab {i c : Int} {ks bx xs : List Int} {g0 g1 g n : Nat} {ow0 ow1 : Bool} {cp : Option Nat} : (B42 i c ks bx xs g0 g1 g n ow0 ow1 cp).tab = [some ⟨.ints .u8 ks, g0, ow0, 5⟩, some ⟨.ints .u8 bx, g1, ow1, 5⟩, some ⟨.ints .u8 xs, g, true, 5⟩] := by kernel_rfl
end Go.Abs

set_option linter.unusedVariables false
set_option linter.unusedSimpArgs false
set_option maxRecDepth 8000
namespace Go.Abs
open Go.Proofs.Try
theorem take4 {l : List Int} {a : Nat} (h : a + 4 ≤ l.length) : (l.drop a).take 4 = [l.getD (a + 0) 0, l.getD (a + 1) 0, l.getD (a + 2) 0, l.getD (a + 3) 0] := by
  have hl : ((l.drop a).take 4).length = 4 := by simp; omega
  have e : ∀ k, k < 4 → ((l.drop a).take 4).getD k 0 = l.getD (a + k) 0 := fun k hk => by
    simp only [List.getD_eq_getElem?_getD, List.getElem?_take, List.getElem?_drop, if_pos hk]
  match h2 : (l.drop a).take 4, hl with
  | [x0, x1, x2, x3], _ =>
    rw [h2] at e
    rw [← e 0 (by omega), ← e 1 (by omega), ← e 2 (by omega), ← e 3 (by omega)]
    rfl
def F42 (g1 : Nat) (cp : Option Nat) (m : Nat) : Fm := [(1, .slice 1 1 g1 0 256 cp), (5, .slice 1 2 (4 * m - 15) 0 (4 * m) none), (6, .int .u8 (rcLaw ((m - 1) / 4))), (7, .int .i64 m)]
def T42 (key ks : List Int) (g0 g1 : Nat) (ow0 ow1 : Bool) (m : Nat) : Tab := [some ⟨.ints .u8 ks, g0, ow0, 5⟩, some ⟨.ints .u8 BOXLaw, g1, ow1, 5⟩, some ⟨.ints .u8 (ksLaw key (4 * m)), 4 * m - 15, true, 5⟩]
theorem BOXLaw_len : BOXLaw.length = 256 := by kernel_rfl
theorem tsLaw_len (w : List Int) (m : Nat) (c : Int) : (tsLaw w m c).length = 4 := by unfold tsLaw; split <;> rfl
theorem tsLaw_bytes {w : List Int} {m : Nat} {c : Int} (hw : Bytes w) (hc : 0 ≤ c ∧ c < 256) : Bytes (tsLaw w m c) := by
  have q := fun k => boxLaw_rng (hw.get k)
  unfold tsLaw
  split
  · exact .append (.one (ixor_lt8 (q _) hc)) (.append (.one (q _)) (.append (.one (q _)) (.one (q _))))
  · exact .append (.one (hw.get _)) (.append (.one (hw.get _)) (.append (.one (hw.get _)) (.one (hw.get _))))
theorem round42 {key ks : List Int} (hk : key.length = 16) (hb : Bytes key) {g0 g1 : Nat} {ow0 ow1 : Bool} {cp : Option Nat} {m : Nat} (hm : 4 ≤ m) (hm2 : m < 44) :
    To eJ 79 3 (roundOf 0 f42) (F42 g1 cp m) (T42 key ks g0 g1 ow0 ow1 m) .normal (F42 g1 cp (m + 1)) (T42 key ks g0 g1 ow0 ow1 (m + 1)) := by
  have hc := rcLaw_lt ((m - 1) / 4)
  have hl := ksLaw_len hk (n := 4 * m) (by omega)
  have hwb := ksLaw_bytes hb (4 * m)
  have hts := ts_next hk hm 4 (Nat.le_refl _)
  have htl := tsLaw_len (ksLaw key (4 * m)) m (rcLaw ((m - 1) / 4))
  have htb := tsLaw_bytes (m := m) hwb hc
  have e1 : (4 * (m : Int) - 4).toNat = 4 * m - 4 := by omega
  have e2 : (4 * (m : Int)).toNat = 4 * m := by omega
  have e3 : subO (4 * m) (4 * m - 4) = 4 := by rw [subO_eq]; omega
  have e4 : List.take 4 (dropO (4 * m - 4) (ksLaw key (4 * m))) = [(ksLaw key (4 * m)).getD (4 * m - 4 + 0) 0, (ksLaw key (4 * m)).getD (4 * m - 4 + 1) 0, (ksLaw key (4 * m)).getD (4 * m - 4 + 2) 0, (ksLaw key (4 * m)).getD (4 * m - 4 + 3) 0] := by
    rw [dropO_eq, take4 (by omega)]
  have e5 : (m : Int).tmod 4 = ((m % 4 : Nat) : Int) := by rw [Int.tmod_eq_emod_of_nonneg (by omega)]; omega
  by_cases h0 : m % 4 = 0
  · have et : tsLaw (ksLaw key (4 * m)) m (rcLaw ((m - 1) / 4)) = [ixor (BOXLaw.getD ((ksLaw key (4 * m)).getD (4 * m - 4 + 1) 0).toNat 0) (rcLaw ((m - 1) / 4)), BOXLaw.getD ((ksLaw key (4 * m)).getD (4 * m - 4 + 2) 0).toNat 0, BOXLaw.getD ((ksLaw key (4 * m)).getD (4 * m - 4 + 3) 0).toNat 0, BOXLaw.getD ((ksLaw key (4 * m)).getD (4 * m - 4 + 0) 0).toNat 0] := by
      unfold tsLaw; rw [if_pos h0]; rfl
    refine To.of (o := A42b m (rcLaw ((m - 1) / 4)) ks BOXLaw (ksLaw key (4 * m)) g0 g1 (4 * m - 15) (4 * m) ow0 ow1 cp) eJ_ok hmA (Nat.le_refl 3) (OrcOk.cons g42b_ok (by kernel_rfl) OrcOk.nil) rfl (A42b_ok ?_) A42b_ex ?_ ?_
    · simp only [e1, e2, e3, e4, e5, List.nil_append, List.getD_cons_zero, List.getD_cons_succ]
      rw [et] at htb htl
      have b0 := hwb.get (4 * m - 4 + 0)
      have b1 := hwb.get (4 * m - 4 + 1)
      have b2 := hwb.get (4 * m - 4 + 2)
      have b3 := hwb.get (4 * m - 4 + 3)
      have n1 : nonneg .u8 (BOXLaw.getD ((ksLaw key (4 * m)).getD (4 * m - 4 + 1) 0).toNat 0) := boxLaw_rng b1
      have n2 : nonneg .u8 (rcLaw ((m - 1) / 4)) := hc
      simp only [allP, Con.h, hl, BOXLaw_len, h0, decide_eq_true_eq, eq_self, true_and, and_true, List.length_cons, List.length_nil, beq_self_eq_true, Int.natCast_zero]
      repeat' with_reducible apply And.intro
      all_goals first | exact hwb | exact htb | exact n1 | exact n2 | omega | rfl
    · rw [A42b_fm, times_two _ hc]
      unfold F42
      rw [show 4 * m - 15 + 4 = 4 * (m + 1) - 15 by omega, show (m + 1 - 1) / 4 = (m - 1) / 4 + 1 by omega]
      rfl
    · rw [A42b_tab]
      simp only [e1, e2, e3, e4, List.nil_append, List.getD_cons_zero, List.getD_cons_succ, Int.toNat_natCast]
      rw [← et, hts]
      unfold T42
      rw [show 4 * m - 15 + 4 = 4 * (m + 1) - 15 by omega]
      rfl
  · have et : tsLaw (ksLaw key (4 * m)) m (rcLaw ((m - 1) / 4)) = [(ksLaw key (4 * m)).getD (4 * m - 4 + 0) 0, (ksLaw key (4 * m)).getD (4 * m - 4 + 1) 0, (ksLaw key (4 * m)).getD (4 * m - 4 + 2) 0, (ksLaw key (4 * m)).getD (4 * m - 4 + 3) 0] := by
      unfold tsLaw; rw [if_neg h0]
    refine To.of (o := A42a m (rcLaw ((m - 1) / 4)) ks BOXLaw (ksLaw key (4 * m)) g0 g1 (4 * m - 15) (4 * m) ow0 ow1 cp) eJ_ok hmA (Nat.le_refl 3) (OrcOk.cons g42a_ok (by kernel_rfl) OrcOk.nil) rfl (A42a_ok ?_) A42a_ex ?_ ?_
    · simp only [e1, e2, e3, e4, e5, List.nil_append]
      rw [et] at htb htl
      have h0' : (((m % 4 : Nat) : Int) == 0) = false := by simp; omega
      simp only [allP, Con.h, hl, h0', decide_eq_true_eq, eq_self, true_and, and_true, List.length_cons, List.length_nil]
      repeat' with_reducible apply And.intro
      all_goals first | exact hwb | exact htb | omega | rfl
    · rw [A42a_fm]
      unfold F42
      rw [show 4 * m - 15 + 4 = 4 * (m + 1) - 15 by omega, show (m + 1 - 1) / 4 = (m - 1) / 4 by omega]
      rfl
    · rw [A42a_tab]
      simp only [e1, e2, e3, e4, List.nil_append, Int.toNat_natCast]
      rw [← et, hts]
      unfold T42
      rw [show 4 * m - 15 + 4 = 4 * (m + 1) - 15 by omega]
      rfl
theorem loop42 {key ks : List Int} (hk : key.length = 16) (hb : Bytes key) {g0 g1 : Nat} {ow0 ow1 : Bool} {cp : Option Nat} :
    To eJ 79 3 (.block 0 (.loop (roundOf 0 f42))) (F42 g1 cp 4) (T42 key ks g0 g1 ow0 ow1 4) .normal [(5, .slice 1 2 161 0 176 none)] (T42 key ks g0 g1 ow0 ow1 44) :=
  To.rounds (fun j => F42 g1 cp (4 + j)) (fun j => T42 key ks g0 g1 ow0 ow1 (4 + j)) 40 (fun j hj => round42 hk hb (by omega) (by omega))
    (To.of (o := B42 (44 : Nat) (rcLaw 10) ks BOXLaw (ksLaw key 176) g0 g1 161 176 ow0 ow1 cp) eJ_ok hmA (Nat.le_refl 3) OrcOk.nil rfl (B42_ok (by simp [allP, Con.h])) B42_ex B42_fm B42_tab)
def g42 : List AVal → Tab → Out := fun vs T => match vs, T with
  | [.slice 1 1 g1 0 256 cp, .slice 1 2 g 0 n none, .int .u8 c, .int .i64 i], [some ⟨.ints .u8 ks, g0, ow0, 5⟩, some ⟨.ints .u8 bx, g1', ow1, 5⟩, some ⟨.ints .u8 xs, g', true, 5⟩] =>
    ⟨[.eqN g1 g1', .eqN g 1, .eqN g' 1, .eqN n 16, .rng 1 c 1, .rng 4 i 4, .p (bx = BOXLaw), .p (xs.length = 16 ∧ Bytes xs)], .normal, [(5, .slice 1 2 161 0 176 none)],
      [some ⟨.ints .u8 ks, g0, ow0, 5⟩, some ⟨.ints .u8 bx, g1', ow1, 5⟩, some ⟨.ints .u8 (ksLaw xs 176), 161, true, 5⟩], []⟩
  | _, _ => failO
theorem g42_ok : BlkOk eJ f42 0 (.loop (roundOf 0 f42)) (blkS 3 [1,5,6,7] g42) := by
  refine blkS_ok fun vs T h => ?_
  unfold g42 at h ⊢
  split at h
  · rename_i g1 cp g n c i ks g0 ow0 bx g1' ow1 xs g'
    obtain ⟨h1, h2, h3, h4, h5, h6, h7, h8, _⟩ := h.h
    simp only [Con.h] at h1 h2 h3 h4 h5 h6 h7 h8
    obtain rfl : c = 1 := by omega
    obtain rfl : i = 4 := by omega
    subst h1 h2 h3 h4 h7
    exact loop42 h8.1 h8.2
  · exact absurd h nofailO
noncomputable def orc42 : OrcL := [(0, blkS 3 [1,5,6,7] g42)]
theorem orc42_ok : FnOrc eJ f42 orc42 := FnOrc.cons g42_ok (by kernel_rfl) FnOrc.nil
noncomputable def R42 (bx ks : List Int) (g0 g1 off : Nat) (cp cp1 : Option Nat) (ow0 ow1 : Bool) : Res := runF eJ f42 orc42 400 [.slice 1 0 g0 off 16 cp, .slice 1 1 g1 0 256 cp1] [some ⟨.ints .u8 ks, g0, ow0, 5⟩, some ⟨.ints .u8 bx, g1, ow1, 5⟩] []
theorem R42_ok {bx ks : List Int} {g0 g1 off : Nat} {cp cp1 : Option Nat} {ow0 ow1 : Bool} (h : allP [.eqN g0 g0, .leN (off + 16) ks.length, .eqN g1 g1, .p (bx = BOXLaw), .p (([] ++ List.take 16 (dropO off ks)).length = 16 ∧ Bytes ([] ++ List.take 16 (dropO off ks)))]) : OkR (R42 bx ks g0 g1 off cp cp1 ow0 ow1) := OkR.dem (fl := bitsF 15 8015) (by kernel_rfl) (by kernel_rfl) (by kernel_rfl) h
theorem R42_val {bx ks : List Int} {g0 g1 off : Nat} {cp cp1 : Option Nat} {ow0 ow1 : Bool} : (R42 bx ks g0 g1 off cp cp1 ow0 ow1).val = .slice 1 2 161 0 176 none := by kernel_rfl
theorem R42_tab {bx ks : List Int} {g0 g1 off : Nat} {cp cp1 : Option Nat} {ow0 ow1 : Bool} : (R42 bx ks g0 g1 off cp cp1 ow0 ow1).tab = [some ⟨.ints .u8 ks, g0, ow0, 5⟩, some ⟨.ints .u8 bx, g1, ow1, 5⟩, some ⟨.ints .u8 (ksLaw ([] ++ List.take 16 (dropO off ks)) 176), 161, true, 5⟩] := by kernel_rfl
end Go.Abs

set_option linter.unusedVariables false
set_option linter.unusedSimpArgs false
set_option maxRecDepth 8000
namespace Go.Abs
open Go.Proofs.Try
def sm42 : Summary := fun args T => match args, T with
  | [.slice 1 0 g0 off 16 cp, .slice 1 1 g1 0 256 cp1], [some ⟨.ints .u8 ks, g0', ow0, 5⟩, some ⟨.ints .u8 bx, g1', ow1, 5⟩] =>
    ⟨[.eqN g0 g0', .eqN g1 g1', .leN (off + 16) ks.length, .p (bx = BOXLaw), .p (Bytes (subLaw ks off 16))], .slice 1 2 161 0 176 none, [some ⟨.ints .u8 ks, g0', ow0, 5⟩, some ⟨.ints .u8 bx, g1', ow1, 5⟩, some ⟨.ints .u8 (ksLaw (subLaw ks off 16) 176), 161, true, 5⟩]⟩
  | _, _ => fail
theorem sm42_ok : SmOk prog (fun _ => none) 42 sm42 := by
  intro args T hc
  unfold sm42 at hc ⊢
  split at hc
  · rename_i g0 off cp g1 cp1 ks g0' ow0 bx g1' ow1
    obtain ⟨h1, h2, h3, h4, h5, _⟩ := hc
    simp only [Con.h] at h1 h2 h3 h4 h5
    subst h1 h2 h4
    have hl := subLaw_len h3
    have e : [] ++ List.take 16 (dropO off ks) = subLaw ks off 16 := by rw [dropO_eq]; rfl
    refine small_of (R := R42 BOXLaw ks g0 g1 off cp cp1 ow0 ow1) eJ_ok hmA (f := 42) (fn := f42) (by kernel_rfl) (by kernel_rfl) orc42_ok rfl (R42_ok ?_) R42_val (by rw [R42_tab, e])
    rw [e]
    exact ⟨rfl, h3, rfl, rfl, ⟨hl, h5⟩, trivial⟩
  · exact absurd hc nofail
def S42 : Summary := callR sm42 []
theorem S42_ok : SumOk prog (fun _ => none) 42 S42 := callR_ok sm42_ok []
end Go.Abs

set_option linter.unusedVariables false
set_option linter.unusedSimpArgs false
set_option maxRecDepth 8000
namespace Go.Abs
open Go.Proofs.Try
/-! ### Lent and Stays -/
noncomputable def R18 (zs : List Int) (g off n : Nat) (cp : Option Nat) (ow : Bool) : Res := runF (eA []) f18 [] 100 [.slice 1 0 g off n cp] [some ⟨.ints .u8 zs, g, ow, 5⟩] []
theorem R18_ok {zs : List Int} {g off n : Nat} {cp : Option Nat} {ow : Bool} (h : allP [.leN n 140737488355328, .eqN g g, .leN (off + n) zs.length, .leN (0 + n) ([] ++ List.take n (dropO off zs)).length, .leN (addO n 2) 140737488355328, .eqN g g, .leI 0 (↑n : Int), .leN 0 n, .orN n (addO n 2) (0 + n) (List.take n ([] ++ List.take n (dropO off zs)) ++ [201, 202]).length]) : OkR (R18 zs g off n cp
 ow) := OkR.dem (fl := bitsF 23 1286087) (by kernel_rfl) (by kernel_rfl) (by kernel_rfl) h
theorem R18_val {zs : List Int} {g off n : Nat} {cp : Option Nat} {ow : Bool} : (R18 zs g off n cp ow).val = .slice 1 1 2 0 n none := by kernel_rfl
theorem R18_tab {zs : List Int} {g off n : Nat} {cp : Option Nat} {ow : Bool} : (R18 zs g off n cp ow).tab = [some ⟨.ints .u8 zs, g, ow, 5⟩, some ⟨.ints .u8 (List.take n ([] ++ List.take n (dropO off zs)) ++ [201, 202]), 2, true, 5⟩, some ⟨.ints .u8 [201, 202], 0, true, 5⟩] := by kernel_rfl
def sm18 : Summary := fun args T => match args, T with
  | [.slice 1 0 g off n cp], [some ⟨.ints .u8 zs, g', ow, 5⟩] => ⟨[.eqN g g', .leN (off + n) zs.length, .leN n 140737488355300], .slice 1 1 2 0 n none, [some ⟨.ints .u8 zs, g', ow, 5⟩, some ⟨.ints .u8 (subLaw zs off n ++ [201, 202]), 2, true, 5⟩, some ⟨.ints .u8 [201, 202], 0, true, 5⟩]⟩
  | _, _ => fail
theorem sm18_ok : SmOk prog (fun _ => none) 18 sm18 := by
  intro args T hc
  unfold sm18 at hc ⊢
  split at hc
  · rename_i g off n cp zs g' ow
    obtain ⟨h1, h2, h3, _⟩ := hc
    simp only [Con.h] at h1 h2 h3
    subst h1
    refine small_of (R := R18 zs g off n cp ow) eA0_ok hmA (f := 18) (fn := f18) (by kernel_rfl) (by kernel_rfl) FnOrc.nil rfl (R18_ok ?_) R18_val ?_
    · simp only [allP, Con.h, addO_eq, dropO_eq, List.nil_append, List.length_take, List.length_drop, List.length_append, List.length_cons, List.length_nil, eq_self, true_and, and_true]
      omega
    · rw [R18_tab, dropO_eq, List.nil_append, List.take_of_length_le (by simp; omega)]
      rfl
  · exact absurd hc nofail
def S18 : Summary := callR sm18 []
theorem S18_ok : SumOk prog (fun _ => none) 18 S18 := callR_ok sm18_ok []
noncomputable def S22 : Summary := sumI modeO (eA []) f22 [] 100 [some true, some true, some true] []
theorem S22_ok : SumOk prog (fun _ => none) 22 S22 := sumI_ok eA0_ok hmA (fn := f22) (by kernel_rfl) (by kernel_rfl) [] FnOrc.nil 100 [some true, some true, some true] []
end Go.Abs

set_option linter.unusedVariables false
set_option linter.unusedSimpArgs false
set_option maxRecDepth 8000
namespace Go.Abs
open Go.Proofs.Try
theorem Bytes.of {l : List Int} (h : ∀ z ∈ l, 0 ≤ z ∧ z < 256) : Bytes l := fun i hi => by
  rw [List.getD_eq_getElem?_getD, List.getElem?_eq_getElem hi]; exact h _ (List.getElem_mem hi)
theorem lent_sub {zs : List Int} {n : Nat} (hn : n ≤ zs.length) : subLaw (subLaw zs 0 n ++ [201, 202]) 0 n = subLaw zs 0 n := by
  have hl : (subLaw zs 0 n).length = n := subLaw_len (by omega)
  rw [subLaw, List.drop_zero, List.take_append_of_le_length (by omega), List.take_of_length_le (by omega)]
theorem lent_take {zs : List Int} {n : Nat} (hn : n ≤ zs.length) : List.take n (subLaw zs 0 n ++ [201, 202]) = List.take n zs := by
  have hl : (subLaw zs 0 n).length = n := subLaw_len (by omega)
  rw [List.take_append_of_le_length (by omega), List.take_of_length_le (by omega)]
  simp [subLaw]
theorem lent_a {zs : List Int} {n : Nat} (hn : n ≤ zs.length) : (subLaw zs 0 n ++ [201, 202]).getD n 0 = 201 := by
  have hl : (subLaw zs 0 n).length = n := subLaw_len (by omega)
  rw [List.getD_eq_getElem?_getD, List.getElem?_append_right (by omega), hl]; simp
theorem lent_b {zs : List Int} {n : Nat} (hn : n ≤ zs.length) : (subLaw zs 0 n ++ [201, 202]).getD (n + 1) 0 = 202 := by
  have hl : (subLaw zs 0 n).length = n := subLaw_len (by omega)
  rw [List.getD_eq_getElem?_getD, List.getElem?_append_right (by omega), hl]; simp
end Go.Abs

set_option linter.unusedVariables false
set_option linter.unusedSimpArgs false
set_option maxRecDepth 8000
namespace Go.Abs
open Go.Proofs.Try
/-! ### squares -/
def l16 (f : Nat → Int) : List Int := [f 0, f 1, f 2, f 3, f 4, f 5, f 6, f 7, f 8, f 9, f 10, f 11, f 12, f 13, f 14, f 15]
theorem l16_get (f : Nat → Int) : ∀ i, i < 16 → (l16 f).getD i 0 = f i := by
  intro i hi
  match i, hi with
  | 0, _ => rfl | 1, _ => rfl | 2, _ => rfl | 3, _ => rfl | 4, _ => rfl | 5, _ => rfl | 6, _ => rfl | 7, _ => rfl
  | 8, _ => rfl | 9, _ => rfl | 10, _ => rfl | 11, _ => rfl | 12, _ => rfl | 13, _ => rfl | 14, _ => rfl | 15, _ => rfl
  | n + 16, h => exact absurd h (by omega)
theorem l16_bytes {f : Nat → Int} (h : ∀ i, i < 16 → 0 ≤ f i ∧ f i < 256) : Bytes (l16 f) := fun i hi => by
  rw [l16_get f i hi]; exact h i hi
theorem l16_of {l : List Int} (h : l.length = 16) : l16 (fun i => l.getD i 0) = l := by
  obtain ⟨a0, a1, a2, a3, a4, a5, a6, a7, a8, a9, a10, a11, a12, a13, a14, a15, rfl⟩ := list16 h
  rfl
theorem l16_congr {f g : Nat → Int} (h : ∀ i, i < 16 → f i = g i) : l16 f = l16 g := by
  unfold l16
  rw [h 0 (by decide), h 1 (by decide), h 2 (by decide), h 3 (by decide), h 4 (by decide), h 5 (by decide), h 6 (by decide), h 7 (by decide), h 8 (by decide), h 9 (by decide), h 10 (by decide), h 11 (by decide), h 12 (by decide), h 13 (by decide), h 14 (by decide), h 15 (by decide)]
def backLaw (x : Int) : Int := TABLaw.getD (256 + x.toNat) 0
def plusLaw (s k : List Int) : List Int := l16 fun i => ixor (s.getD i 0) (k.getD i 0)
def boxedLaw (s : List Int) : List Int := l16 fun i => boxLaw (s.getD i 0)
def unboxedLaw (s : List Int) : List Int := l16 fun i => backLaw (s.getD i 0)
def turnedLaw (n : Nat) (s : List Int) : List Int := l16 fun i => s.getD ((4 * n * (i % 4) + i) % 16) 0
def mixByLaw (f : Int → Int → Int) (m s : List Int) : List Int := l16 fun i =>
  ixor (ixor (ixor (ixor 0 (f (m.getD ((0 + 4 - i % 4) % 4) 0) (s.getD (i / 4 * 4) 0))) (f (m.getD ((1 + 4 - i % 4) % 4) 0) (s.getD (i / 4 * 4 + 1) 0))) (f (m.getD ((2 + 4 - i % 4) % 4) 0) (s.getD (i / 4 * 4 + 2) 0))) (f (m.getD ((3 + 4 - i % 4) % 4) 0) (s.getD (i / 4 * 4 + 3) 0))
def mixLaw (s : List Int) : List Int := mixByLaw timesLaw [2, 3, 1, 1] s
def unmixLaw (s : List Int) : List Int := mixByLaw timesLaw [14, 11, 13, 9] s
noncomputable def R43 (a0 a1 a2 a3 a4 a5 a6 a7 a8 a9 a10 a11 a12 a13 a14 a15 b0 b1 b2 b3 b4 b5 b6 b7 b8 b9 b10 b11 b12 b13 b14 b15 : Int) : Res := runF (eA []) f43 [] 400 [.ints .u8 [a0, a1, a2, a3, a4, a5, a6, a7, a8, a9, a10, a11, a12, a13, a14, a15], .ints .u8 [b0, b1, b2, b3, b4, b5, b6, b7, b8, b9, b10, b11, b12, b13, b14, b15]] [] []
theorem R43_ok {a0 a1 a2 a3 a4 a5 a6 a7 a8 a9 a10 a11 a12 a13 a14 a15 b0 b1 b2 b3 b4 b5 b6 b7 b8 b9 b10 b11 b12 b13 b14 b15 : Int} (h : allP [.nn .u8 a0, .nn .u8 b0, .nn .u8 a1, .nn .u8 b1, .nn .u8 a2, .nn .u8 b2, .nn .u8 a3, .nn .u8 b3, .nn .u8 a4, .nn .u8 b4, .nn .u8 a5, .nn .u8 b5, .nn .u8 a6, .nn .u8 b6, .nn .u8 a7, .nn .u8 b7, .nn .u8 a8, .nn .u8 b8, .nn .u8 a9, .nn .u8 b9, .nn .u8 a10, .nn
 .u8 b10, .nn .u8 a11, .nn .u8 b11, .nn .u8 a12, .nn .u8 b12, .nn .u8 a13, .nn .u8 b13, .nn .u8 a14, .nn .u8 b14, .nn .u8 a15, .nn .u8 b15]) : OkR (R43 a0 a1 a2 a3 a4 a5 a6 a7 a8 a9 a10 a11 a12 a13 a14 a15 b0 b1 b2 b3 b4 b5 b6 b7 b8 b9 b10 b11 b12 b13 b14 b15) := OkR.dem (fl := bitsF 360 2346235642952122050404403646816467721137879611140647331422351725666312341271985797665097974054046897884096510)
 (by kernel_rfl) (by kernel_rfl) (by kernel_rfl) h
theorem R43_val {a0 a1 a2 a3 a4 a5 a6 a7 a8 a9 a10 a11 a12 a13 a14 a15 b0 b1 b2 b3 b4 b5 b6 b7 b8 b9 b10 b11 b12 b13 b14 b15 : Int} : (R43 a0 a1 a2 a3 a4 a5 a6 a7 a8 a9 a10 a11 a12 a13 a14 a15 b0 b1 b2 b3 b4 b5 b6 b7 b8 b9 b10 b11 b12 b13 b14 b15).val = .ints .u8 [ixor a0 b0, ixor a1 b1, ixor a2 b2, ixor a3 b3, ixor a4 b4, ixor a5 b5, ixor a6 b6, ixor a7 b7, ixor a8 b8, ixor a9 b9, ixor a10 b10,
 ixor a11 b11, ixor a12 b12, ixor a13 b13, ixor a14 b14, ixor a15 b15] := by kernel_rfl
theorem R43_tab {a0 a1 a2 a3 a4 a5 a6 a7 a8 a9 a10 a11 a12 a13 a14 a15 b0 b1 b2 b3 b4 b5 b6 b7 b8 b9 b10 b11 b12 b13 b14 b15 : Int} : (R43 a0 a1 a2 a3 a4 a5 a6 a7 a8 a9 a10 a11 a12 a13 a14 a15 b0 b1 b2 b3 b4 b5 b6 b7 b8 b9 b10 b11 b12 b13 b14 b15).tab = [some ⟨.ints .u8 [ixor a0 b0, ixor a1 b1, ixor a2 b2, ixor a3 b3, ixor a4 b4, ixor a5 b5, ixor a6 b6, ixor a7 b7, ixor a8 b8, ixor a9 b9, ixor a10
 b10, ixor a11 b11, ixor a12 b12, ixor a13 b13, ixor a14 b14, ixor a15 b15], 0, true, 48⟩, some ⟨.ints .u8 [b0, b1, b2, b3, b4, b5, b6, b7, b8, b9, b10, b11, b12, b13, b14, b15], 0, true, 48⟩, some ⟨.ints .u8 [ixor a0 b0, ixor a1 b1, ixor a2 b2, ixor a3 b3, ixor a4 b4, ixor a5 b5, ixor a6 b6, ixor a7 b7, ixor a8 b8, ixor a9 b9, ixor a10 b10, ixor a11 b11, ixor a12 b12, ixor a13 b13, ixor a14 b14,
 ixor a15 b15], 0, true, 48⟩] := by kernel_rfl
noncomputable def R44 (a0 a1 a2 a3 a4 a5 a6 a7 a8 a9 a10 a11 a12 a13 a14 a15 : Int) (tb : List Int) (g : Nat) (ow : Bool) : Res := runF (eA []) f44 [] 400 [.ints .u8 [a0, a1, a2, a3, a4, a5, a6, a7, a8, a9, a10, a11, a12, a13, a14, a15], .var 0 g] [some ⟨.ints .u8 tb, g, ow, 72⟩] []
theorem R44_ok {a0 a1 a2 a3 a4 a5 a6 a7 a8 a9 a10 a11 a12 a13 a14 a15 : Int} {tb : List Int} {g : Nat} {ow : Bool} (h : allP [.eqN g g, .eqN g g, .leI 0 a0, .leI (a0 + 1) 256, .eqN g g, .eqN g g, .leN (a0.toNat + 1) tb.length, .eqN g g, .eqN g g, .leI 0 a1, .leI (a1 + 1) 256, .eqN g g, .eqN g g, .leN (a1.toNat + 1) tb.length, .eqN g g, .eqN g g, .leI 0 a2, .leI (a2 + 1) 256, .eqN g g, .eqN g g,
 .leN (a2.toNat + 1) tb.length, .eqN g g, .eqN g g, .leI 0 a3, .leI (a3 + 1) 256, .eqN g g, .eqN g g, .leN (a3.toNat + 1) tb.length, .eqN g g, .eqN g g, .leI 0 a4, .leI (a4 + 1) 256, .eqN g g, .eqN g g, .leN (a4.toNat + 1) tb.length, .eqN g g, .eqN g g, .leI 0 a5, .leI (a5 + 1) 256, .eqN g g, .eqN g g, .leN (a5.toNat + 1) tb.length, .eqN g g, .eqN g g, .leI 0 a6, .leI (a6 + 1) 256, .eqN g g, .eqN g
 g, .leN (a6.toNat + 1) tb.length, .eqN g g, .eqN g g, .leI 0 a7, .leI (a7 + 1) 256, .eqN g g, .eqN g g, .leN (a7.toNat + 1) tb.length, .eqN g g, .eqN g g, .leI 0 a8, .leI (a8 + 1) 256, .eqN g g, .eqN g g, .leN (a8.toNat + 1) tb.length, .eqN g g, .eqN g g, .leI 0 a9, .leI (a9 + 1) 256, .eqN g g, .eqN g g, .leN (a9.toNat + 1) tb.length, .eqN g g, .eqN g g, .leI 0 a10, .leI (a10 + 1) 256, .eqN g g,
 .eqN g g, .leN (a10.toNat + 1) tb.length, .eqN g g, .eqN g g, .leI 0 a11, .leI (a11 + 1) 256, .eqN g g, .eqN g g, .leN (a11.toNat + 1) tb.length, .eqN g g, .eqN g g, .leI 0 a12, .leI (a12 + 1) 256, .eqN g g, .eqN g g, .leN (a12.toNat + 1) tb.length, .eqN g g, .eqN g g, .leI 0 a13, .leI (a13 + 1) 256, .eqN g g, .eqN g g, .leN (a13.toNat + 1) tb.length, .eqN g g, .eqN g g, .leI 0 a14, .leI (a14 + 1)
 256, .eqN g g, .eqN g g, .leN (a14.toNat + 1) tb.length, .eqN g g, .eqN g g, .leI 0 a15, .leI (a15 + 1) 256, .eqN g g, .eqN g g, .leN (a15.toNat + 1) tb.length]) : OkR (R44 a0 a1 a2 a3 a4 a5 a6 a7 a8 a9 a10 a11 a12 a13 a14 a15 tb g ow) := OkR.dem (fl := bitsF 298 509251284087044197843366292636913578231097536559799579681714802257448417336221965135900703) (by kernel_rfl) (by kernel_rfl) (by
 kernel_rfl) h
theorem R44_val {a0 a1 a2 a3 a4 a5 a6 a7 a8 a9 a10 a11 a12 a13 a14 a15 : Int} {tb : List Int} {g : Nat} {ow : Bool} : (R44 a0 a1 a2 a3 a4 a5 a6 a7 a8 a9 a10 a11 a12 a13 a14 a15 tb g ow).val = .ints .u8 [tb.getD a0.toNat 0, tb.getD a1.toNat 0, tb.getD a2.toNat 0, tb.getD a3.toNat 0, tb.getD a4.toNat 0, tb.getD a5.toNat 0, tb.getD a6.toNat 0, tb.getD a7.toNat 0, tb.getD a8.toNat 0, tb.getD a9.toNat
 0, tb.getD a10.toNat 0, tb.getD a11.toNat 0, tb.getD a12.toNat 0, tb.getD a13.toNat 0, tb.getD a14.toNat 0, tb.getD a15.toNat 0] := by kernel_rfl
theorem R44_tab {a0 a1 a2 a3 a4 a5 a6 a7 a8 a9 a10 a11 a12 a13 a14 a15 : Int} {tb : List Int} {g : Nat} {ow : Bool} : (R44 a0 a1 a2 a3 a4 a5 a6 a7 a8 a9 a10 a11 a12 a13 a14 a15 tb g ow).tab = [some ⟨.ints .u8 tb, g, ow, 72⟩, some ⟨.ints .u8 [tb.getD a0.toNat 0, tb.getD a1.toNat 0, tb.getD a2.toNat 0, tb.getD a3.toNat 0, tb.getD a4.toNat 0, tb.getD a5.toNat 0, tb.getD a6.toNat 0, tb.getD a7.toNat 0,
 tb.getD a8.toNat 0, tb.getD a9.toNat 0, tb.getD a10.toNat 0, tb.getD a11.toNat 0, tb.getD a12.toNat 0, tb.getD a13.toNat 0, tb.getD a14.toNat 0, tb.getD a15.toNat 0], 0, true, 48⟩, some ⟨.ints .u8 [tb.getD a0.toNat 0, tb.getD a1.toNat 0, tb.getD a2.toNat 0, tb.getD a3.toNat 0, tb.getD a4.toNat 0, tb.getD a5.toNat 0, tb.getD a6.toNat 0, tb.getD a7.toNat 0, tb.getD a8.toNat 0, tb.getD a9.toNat 0,
 tb.getD a10.toNat 0, tb.getD a11.toNat 0, tb.getD a12.toNat 0, tb.getD a13.toNat 0, tb.getD a14.toNat 0, tb.getD a15.toNat 0], 0, true, 48⟩] := by kernel_rfl
noncomputable def R68a (a0 a1 a2 a3 a4 a5 a6 a7 a8 a9 a10 a11 a12 a13 a14 a15 : Int) : Res := runF (eA []) f68 [] 400 [.ints .u8 [a0, a1, a2, a3, a4, a5, a6, a7, a8, a9, a10, a11, a12, a13, a14, a15], .int .i64 1] [] []
theorem R68a_ok {a0 a1 a2 a3 a4 a5 a6 a7 a8 a9 a10 a11 a12 a13 a14 a15 : Int} (h : allP []) : OkR (R68a a0 a1 a2 a3 a4 a5 a6 a7 a8 a9 a10 a11 a12 a13 a14 a15) := OkR.dem (fl := bitsF 296 127314748520905380391777855525586135065716774604121015664758778084648831235208544136462335) (by kernel_rfl) (by kernel_rfl) (by kernel_rfl) h
theorem R68a_val {a0 a1 a2 a3 a4 a5 a6 a7 a8 a9 a10 a11 a12 a13 a14 a15 : Int} : (R68a a0 a1 a2 a3 a4 a5 a6 a7 a8 a9 a10 a11 a12 a13 a14 a15).val = .ints .u8 [a0, a5, a10, a15, a4, a9, a14, a3, a8, a13, a2, a7, a12, a1, a6, a11] := by kernel_rfl
theorem R68a_tab {a0 a1 a2 a3 a4 a5 a6 a7 a8 a9 a10 a11 a12 a13 a14 a15 : Int} : (R68a a0 a1 a2 a3 a4 a5 a6 a7 a8 a9 a10 a11 a12 a13 a14 a15).tab = [some ⟨.ints .u8 [a0, a1, a2, a3, a4, a5, a6, a7, a8, a9, a10, a11, a12, a13, a14, a15], 0, true, 48⟩, some ⟨.ints .u8 [a0, a5, a10, a15, a4, a9, a14, a3, a8, a13, a2, a7, a12, a1, a6, a11], 0, true, 48⟩, some ⟨.ints .u8 [a0, a5, a10, a15, a4, a9, a14,
 a3, a8, a13, a2, a7, a12, a1, a6, a11], 0, true, 48⟩] := by kernel_rfl
noncomputable def R68b (a0 a1 a2 a3 a4 a5 a6 a7 a8 a9 a10 a11 a12 a13 a14 a15 : Int) : Res := runF (eA []) f68 [] 400 [.ints .u8 [a0, a1, a2, a3, a4, a5, a6, a7, a8, a9, a10, a11, a12, a13, a14, a15], .int .i64 3] [] []
theorem R68b_ok {a0 a1 a2 a3 a4 a5 a6 a7 a8 a9 a10 a11 a12 a13 a14 a15 : Int} (h : allP []) : OkR (R68b a0 a1 a2 a3 a4 a5 a6 a7 a8 a9 a10 a11 a12 a13 a14 a15) := OkR.dem (fl := bitsF 296 127314748520905380391777855525586135065716774604121015664758778084648831235208544136462335) (by kernel_rfl) (by kernel_rfl) (by kernel_rfl) h
theorem R68b_val {a0 a1 a2 a3 a4 a5 a6 a7 a8 a9 a10 a11 a12 a13 a14 a15 : Int} : (R68b a0 a1 a2 a3 a4 a5 a6 a7 a8 a9 a10 a11 a12 a13 a14 a15).val = .ints .u8 [a0, a13, a10, a7, a4, a1, a14, a11, a8, a5, a2, a15, a12, a9, a6, a3] := by kernel_rfl
theorem R68b_tab {a0 a1 a2 a3 a4 a5 a6 a7 a8 a9 a10 a11 a12 a13 a14 a15 : Int} : (R68b a0 a1 a2 a3 a4 a5 a6 a7 a8 a9 a10 a11 a12 a13 a14 a15).tab = [some ⟨.ints .u8 [a0, a1, a2, a3, a4, a5, a6, a7, a8, a9, a10, a11, a12, a13, a14, a15], 0, true, 48⟩, some ⟨.ints .u8 [a0, a13, a10, a7, a4, a1, a14, a11, a8, a5, a2, a15, a12, a9, a6, a3], 0, true, 48⟩, some ⟨.ints .u8 [a0, a13, a10, a7, a4, a1, a14,
 a11, a8, a5, a2, a15, a12, a9, a6, a3], 0, true, 48⟩] := by kernel_rfl
noncomputable def eM0 : Env := eA [(66, S66)]
theorem eM0_ok : EnvOk eM0 := envOf_ok tysA_ok (SumsOk.cons (fn := f66) S66_ok (by kernel_rfl) (by kernel_rfl) (by kernel_rfl) trivial)
noncomputable def R78_1 (x : Int) : Res := runF eM0 f78 [] 400 [.int .u8 x, .int .u8 1] [] []
theorem R78_1_ok {x : Int} (h : allP [.nn .u8 x, .rng 0 x 255]) : OkR (R78_1 x) := OkR.dem (fl := [true, true, true, false, false, true]) (by kernel_rfl) (by kernel_rfl) (by kernel_rfl) h
theorem R78_1_val {x : Int} : (R78_1 x).val = .int .u8 (ixor 0 x) := by kernel_rfl
theorem R78_1_tab {x : Int} : (R78_1 x).tab = [] := by kernel_rfl
noncomputable def R78_2 (x : Int) : Res := runF eM0 f78 [] 400 [.int .u8 x, .int .u8 2] [] []
theorem R78_2_ok {x : Int} (h : allP [.rng 0 x 255, .nn .u8 (dblLaw x), .rng 0 (dblLaw x) 255]) : OkR (R78_2 x) := OkR.dem (fl := [true, true, false, true, true, true, true, false, false, true]) (by kernel_rfl) (by kernel_rfl) (by kernel_rfl) h
theorem R78_2_val {x : Int} : (R78_2 x).val = .int .u8 (ixor 0 (dblLaw x)) := by kernel_rfl
theorem R78_2_tab {x : Int} : (R78_2 x).tab = [] := by kernel_rfl
noncomputable def R78_3 (x : Int) : Res := runF eM0 f78 [] 400 [.int .u8 x, .int .u8 3] [] []
theorem R78_3_ok {x : Int} (h : allP [.nn .u8 x, .rng 0 x 255, .nn .u8 (ixor 0 x), .nn .u8 (dblLaw x), .rng 0 (dblLaw x) 255]) : OkR (R78_3 x) := OkR.dem (fl := bitsF 12 2279) (by kernel_rfl) (by kernel_rfl) (by kernel_rfl) h
theorem R78_3_val {x : Int} : (R78_3 x).val = .int .u8 (ixor (ixor 0 x) (dblLaw x)) := by kernel_rfl
theorem R78_3_tab {x : Int} : (R78_3 x).tab = [] := by kernel_rfl
noncomputable def R78_9 (x : Int) : Res := runF eM0 f78 [] 400 [.int .u8 x, .int .u8 9] [] []
theorem R78_9_ok {x : Int} (h : allP [.nn .u8 x, .rng 0 x 255, .rng 0 (dblLaw x) 255, .rng 0 (dblLaw (dblLaw x)) 255, .nn .u8 (ixor 0 x), .nn .u8 (dblLaw (dblLaw (dblLaw x))), .rng 0 (dblLaw (dblLaw (dblLaw x))) 255]) : OkR (R78_9 x) := OkR.dem (fl := bitsF 20 585447) (by kernel_rfl) (by kernel_rfl) (by kernel_rfl) h
theorem R78_9_val {x : Int} : (R78_9 x).val = .int .u8 (ixor (ixor 0 x) (dblLaw (dblLaw (dblLaw x)))) := by kernel_rfl
theorem R78_9_tab {x : Int} : (R78_9 x).tab = [] := by kernel_rfl
noncomputable def R78_11 (x : Int) : Res := runF eM0 f78 [] 400 [.int .u8 x, .int .u8 11] [] []
theorem R78_11_ok {x : Int} (h : allP [.nn .u8 x, .rng 0 x 255, .nn .u8 (ixor 0 x), .nn .u8 (dblLaw x), .rng 0 (dblLaw x) 255, .rng 0 (dblLaw (dblLaw x)) 255, .nn .u8 (ixor (ixor 0 x) (dblLaw x)), .nn .u8 (dblLaw (dblLaw (dblLaw x))), .rng 0 (dblLaw (dblLaw (dblLaw x))) 255]) : OkR (R78_11 x) := OkR.dem (fl := bitsF 22 2341095) (by kernel_rfl) (by kernel_rfl) (by kernel_rfl) h
theorem R78_11_val {x : Int} : (R78_11 x).val = .int .u8 (ixor (ixor (ixor 0 x) (dblLaw x)) (dblLaw (dblLaw (dblLaw x)))) := by kernel_rfl
theorem R78_11_tab {x : Int} : (R78_11 x).tab = [] := by kernel_rfl
noncomputable def R78_13 (x : Int) : Res := runF eM0 f78 [] 400 [.int .u8 x, .int .u8 13] [] []
theorem R78_13_ok {x : Int} (h : allP [.nn .u8 x, .rng 0 x 255, .rng 0 (dblLaw x) 255, .nn .u8 (ixor 0 x), .nn .u8 (dblLaw (dblLaw x)), .rng 0 (dblLaw (dblLaw x)) 255, .nn .u8 (ixor (ixor 0 x) (dblLaw (dblLaw x))), .nn .u8 (dblLaw (dblLaw (dblLaw x))), .rng 0 (dblLaw (dblLaw (dblLaw x))) 255]) : OkR (R78_13 x) := OkR.dem (fl := bitsF 22 2330343) (by kernel_rfl) (by kernel_rfl) (by kernel_rfl) h
theorem R78_13_val {x : Int} : (R78_13 x).val = .int .u8 (ixor (ixor (ixor 0 x) (dblLaw (dblLaw x))) (dblLaw (dblLaw (dblLaw x)))) := by kernel_rfl
theorem R78_13_tab {x : Int} : (R78_13 x).tab = [] := by kernel_rfl
noncomputable def R78_14 (x : Int) : Res := runF eM0 f78 [] 400 [.int .u8 x, .int .u8 14] [] []
theorem R78_14_ok {x : Int} (h : allP [.rng 0 x 255, .nn .u8 (dblLaw x), .rng 0 (dblLaw x) 255, .nn .u8 (ixor 0 (dblLaw x)), .nn .u8 (dblLaw (dblLaw x)), .rng 0 (dblLaw (dblLaw x)) 255, .nn .u8 (ixor (ixor 0 (dblLaw x)) (dblLaw (dblLaw x))), .nn .u8 (dblLaw (dblLaw (dblLaw x))), .rng 0 (dblLaw (dblLaw (dblLaw x))) 255]) : OkR (R78_14 x) := OkR.dem (fl := bitsF 22 2330235) (by kernel_rfl) (by
 kernel_rfl) (by kernel_rfl) h
theorem R78_14_val {x : Int} : (R78_14 x).val = .int .u8 (ixor (ixor (ixor 0 (dblLaw x)) (dblLaw (dblLaw x))) (dblLaw (dblLaw (dblLaw x)))) := by kernel_rfl
theorem R78_14_tab {x : Int} : (R78_14 x).tab = [] := by kernel_rfl
theorem congr16 {x0 y0 x1 y1 x2 y2 x3 y3 x4 y4 x5 y5 x6 y6 x7 y7 x8 y8 x9 y9 x10 y10 x11 y11 x12 y12 x13 y13 x14 y14 x15 y15 : Int} (h0 : x0 = y0) (h1 : x1 = y1) (h2 : x2 = y2) (h3 : x3 = y3) (h4 : x4 = y4) (h5 : x5 = y5) (h6 : x6 = y6) (h7 : x7 = y7) (h8 : x8 = y8) (h9 : x9 = y9) (h10 : x10 = y10) (h11 : x11 = y11) (h12 : x12 = y12) (h13 : x13 = y13) (h14 : x14 = y14) (h15 : x15 = y15) : [x0, x1, x2, x3, x4, x5, x6, x7, x8, x9, x10, x11, x12, x13, x14, x15] = [y0, y1, y2, y3, y4, y5, y6, y7, y8, y9, y10, y11, y12, y13, y14, y15] := by subst h0 h1 h2 h3 h4 h5 h6 h7 h8 h9 h10 h11 h12 h13 h14 h15; rfl
def sm43 : Summary := fun args T => match args, T with
  | [.ints .u8 s, .ints .u8 k], [] => ⟨[.eqN s.length 16, .eqN k.length 16, .p (Bytes s), .p (Bytes k)], .ints .u8 (plusLaw s k), []⟩
  | _, _ => fail
theorem sm43_ok : SmOk prog (fun _ => none) 43 sm43 := by
  intro args T hc
  unfold sm43 at hc ⊢
  split at hc
  · obtain ⟨h1, h2, h3, h4, _⟩ := hc
    simp only [Con.h] at h1 h2 h3 h4
    obtain ⟨a0, a1, a2, a3, a4, a5, a6, a7, a8, a9, a10, a11, a12, a13, a14, a15, rfl⟩ := list16 h1
    obtain ⟨b0, b1, b2, b3, b4, b5, b6, b7, b8, b9, b10, b11, b12, b13, b14, b15, rfl⟩ := list16 h2
    have p0 : 0 ≤ a0 ∧ a0 < 256 := h3.get 0
    have p1 : 0 ≤ a1 ∧ a1 < 256 := h3.get 1
    have p2 : 0 ≤ a2 ∧ a2 < 256 := h3.get 2
    have p3 : 0 ≤ a3 ∧ a3 < 256 := h3.get 3
    have p4 : 0 ≤ a4 ∧ a4 < 256 := h3.get 4
    have p5 : 0 ≤ a5 ∧ a5 < 256 := h3.get 5
    have p6 : 0 ≤ a6 ∧ a6 < 256 := h3.get 6
    have p7 : 0 ≤ a7 ∧ a7 < 256 := h3.get 7
    have p8 : 0 ≤ a8 ∧ a8 < 256 := h3.get 8
    have p9 : 0 ≤ a9 ∧ a9 < 256 := h3.get 9
    have p10 : 0 ≤ a10 ∧ a10 < 256 := h3.get 10
    have p11 : 0 ≤ a11 ∧ a11 < 256 := h3.get 11
    have p12 : 0 ≤ a12 ∧ a12 < 256 := h3.get 12
    have p13 : 0 ≤ a13 ∧ a13 < 256 := h3.get 13
    have p14 : 0 ≤ a14 ∧ a14 < 256 := h3.get 14
    have p15 : 0 ≤ a15 ∧ a15 < 256 := h3.get 15
    have q0 : 0 ≤ b0 ∧ b0 < 256 := h4.get 0
    have q1 : 0 ≤ b1 ∧ b1 < 256 := h4.get 1
    have q2 : 0 ≤ b2 ∧ b2 < 256 := h4.get 2
    have q3 : 0 ≤ b3 ∧ b3 < 256 := h4.get 3
    have q4 : 0 ≤ b4 ∧ b4 < 256 := h4.get 4
    have q5 : 0 ≤ b5 ∧ b5 < 256 := h4.get 5
    have q6 : 0 ≤ b6 ∧ b6 < 256 := h4.get 6
    have q7 : 0 ≤ b7 ∧ b7 < 256 := h4.get 7
    have q8 : 0 ≤ b8 ∧ b8 < 256 := h4.get 8
    have q9 : 0 ≤ b9 ∧ b9 < 256 := h4.get 9
    have q10 : 0 ≤ b10 ∧ b10 < 256 := h4.get 10
    have q11 : 0 ≤ b11 ∧ b11 < 256 := h4.get 11
    have q12 : 0 ≤ b12 ∧ b12 < 256 := h4.get 12
    have q13 : 0 ≤ b13 ∧ b13 < 256 := h4.get 13
    have q14 : 0 ≤ b14 ∧ b14 < 256 := h4.get 14
    have q15 : 0 ≤ b15 ∧ b15 < 256 := h4.get 15
    refine small_drop (small_of (R := R43 a0 a1 a2 a3 a4 a5 a6 a7 a8 a9 a10 a11 a12 a13 a14 a15 b0 b1 b2 b3 b4 b5 b6 b7 b8 b9 b10 b11 b12 b13 b14 b15) eA0_ok hmA (f := 43) (fn := f43) (by kernel_rfl) (by kernel_rfl) FnOrc.nil rfl (R43_ok ?_) R43_val R43_tab)
    simp only [allP, Con.h, nn8, eq_self, true_and, and_true]
    omega
  · exact absurd hc nofail
def S43 : Summary := callR sm43 []
theorem S43_ok : SumOk prog (fun _ => none) 43 S43 := callR_ok sm43_ok []

def sm44 : Summary := fun args T => match args, T with
  | [.ints .u8 s, .var 0 g], [some ⟨.ints .u8 tb, g', ow, 72⟩] => ⟨[.eqN g g', .eqN s.length 16, .p (Bytes s), .p (tb = TABLaw)], .ints .u8 (boxedLaw s), [some ⟨.ints .u8 tb, g', ow, 72⟩]⟩
  | _, _ => fail
theorem sm44_ok : SmOk prog (fun _ => none) 44 sm44 := by
  intro args T hc
  unfold sm44 at hc ⊢
  split at hc
  · obtain ⟨h1, h2, h3, h4, _⟩ := hc
    simp only [Con.h] at h1 h2 h3 h4
    subst h1 h4
    obtain ⟨a0, a1, a2, a3, a4, a5, a6, a7, a8, a9, a10, a11, a12, a13, a14, a15, rfl⟩ := list16 h2
    have p0 : 0 ≤ a0 ∧ a0 < 256 := h3.get 0
    have p1 : 0 ≤ a1 ∧ a1 < 256 := h3.get 1
    have p2 : 0 ≤ a2 ∧ a2 < 256 := h3.get 2
    have p3 : 0 ≤ a3 ∧ a3 < 256 := h3.get 3
    have p4 : 0 ≤ a4 ∧ a4 < 256 := h3.get 4
    have p5 : 0 ≤ a5 ∧ a5 < 256 := h3.get 5
    have p6 : 0 ≤ a6 ∧ a6 < 256 := h3.get 6
    have p7 : 0 ≤ a7 ∧ a7 < 256 := h3.get 7
    have p8 : 0 ≤ a8 ∧ a8 < 256 := h3.get 8
    have p9 : 0 ≤ a9 ∧ a9 < 256 := h3.get 9
    have p10 : 0 ≤ a10 ∧ a10 < 256 := h3.get 10
    have p11 : 0 ≤ a11 ∧ a11 < 256 := h3.get 11
    have p12 : 0 ≤ a12 ∧ a12 < 256 := h3.get 12
    have p13 : 0 ≤ a13 ∧ a13 < 256 := h3.get 13
    have p14 : 0 ≤ a14 ∧ a14 < 256 := h3.get 14
    have p15 : 0 ≤ a15 ∧ a15 < 256 := h3.get 15
    have hl := TABLaw_len
    have e : boxedLaw [a0, a1, a2, a3, a4, a5, a6, a7, a8, a9, a10, a11, a12, a13, a14, a15] = _ := congr16 (tab_box p0).symm (tab_box p1).symm (tab_box p2).symm (tab_box p3).symm (tab_box p4).symm (tab_box p5).symm (tab_box p6).symm (tab_box p7).symm (tab_box p8).symm (tab_box p9).symm (tab_box p10).symm (tab_box p11).symm (tab_box p12).symm (tab_box p13).symm (tab_box p14).symm (tab_box p15).symm
    refine e ▸ small_drop (small_of (R := R44 a0 a1 a2 a3 a4 a5 a6 a7 a8 a9 a10 a11 a12 a13 a14 a15 TABLaw _ _) eA0_ok hmA (f := 44) (fn := f44) (by kernel_rfl) (by kernel_rfl) FnOrc.nil rfl (R44_ok ?_) R44_val R44_tab)
    simp only [allP, Con.h, hl, eq_self, true_and, and_true]
    omega
  · exact absurd hc nofail
def S44 : Summary := callR sm44 []
theorem S44_ok : SumOk prog (fun _ => none) 44 S44 := callR_ok sm44_ok []

def mulOkLaw (y : Int) : Bool := decide (y = 1) || decide (y = 2) || decide (y = 3) || decide (y = 9) || decide (y = 11) || decide (y = 13) || decide (y = 14)
def sm78 : Summary := fun args T => match args, T with
  | [.int .u8 x, .int .u8 y], [] => ⟨[.rng 0 x 255, .tt (mulOkLaw y)], .int .u8 (timesLaw y x), []⟩
  | _, _ => fail
theorem times_1 : ∀ x : Int, 0 ≤ x ∧ x < 256 → timesLaw 1 x = ixor 0 x := by
  have : ((List.range 256).all fun n : Nat => (fun x : Int => timesLaw 1 x == ixor 0 x) n) = true := by kernel_rfl
  intro x hx
  obtain ⟨n, rfl⟩ := Int.eq_ofNat_of_zero_le hx.1
  simpa using List.all_eq_true.1 this n (List.mem_range.2 (by omega))
theorem times_2 : ∀ x : Int, 0 ≤ x ∧ x < 256 → timesLaw 2 x = ixor 0 (dblLaw x) := by
  have : ((List.range 256).all fun n : Nat => (fun x : Int => timesLaw 2 x == ixor 0 (dblLaw x)) n) = true := by kernel_rfl
  intro x hx
  obtain ⟨n, rfl⟩ := Int.eq_ofNat_of_zero_le hx.1
  simpa using List.all_eq_true.1 this n (List.mem_range.2 (by omega))
theorem times_3 : ∀ x : Int, 0 ≤ x ∧ x < 256 → timesLaw 3 x = ixor (ixor 0 x) (dblLaw x) := by
  have : ((List.range 256).all fun n : Nat => (fun x : Int => timesLaw 3 x == ixor (ixor 0 x) (dblLaw x)) n) = true := by kernel_rfl
  intro x hx
  obtain ⟨n, rfl⟩ := Int.eq_ofNat_of_zero_le hx.1
  simpa using List.all_eq_true.1 this n (List.mem_range.2 (by omega))
theorem times_9 : ∀ x : Int, 0 ≤ x ∧ x < 256 → timesLaw 9 x = ixor (ixor 0 x) (dblLaw (dblLaw (dblLaw x))) := by
  have : ((List.range 256).all fun n : Nat => (fun x : Int => timesLaw 9 x == ixor (ixor 0 x) (dblLaw (dblLaw (dblLaw x)))) n) = true := by kernel_rfl
  intro x hx
  obtain ⟨n, rfl⟩ := Int.eq_ofNat_of_zero_le hx.1
  simpa using List.all_eq_true.1 this n (List.mem_range.2 (by omega))
theorem times_11 : ∀ x : Int, 0 ≤ x ∧ x < 256 → timesLaw 11 x = ixor (ixor (ixor 0 x) (dblLaw x)) (dblLaw (dblLaw (dblLaw x))) := by
  have : ((List.range 256).all fun n : Nat => (fun x : Int => timesLaw 11 x == ixor (ixor (ixor 0 x) (dblLaw x)) (dblLaw (dblLaw (dblLaw x)))) n) = true := by kernel_rfl
  intro x hx
  obtain ⟨n, rfl⟩ := Int.eq_ofNat_of_zero_le hx.1
  simpa using List.all_eq_true.1 this n (List.mem_range.2 (by omega))
theorem times_13 : ∀ x : Int, 0 ≤ x ∧ x < 256 → timesLaw 13 x = ixor (ixor (ixor 0 x) (dblLaw (dblLaw x))) (dblLaw (dblLaw (dblLaw x))) := by
  have : ((List.range 256).all fun n : Nat => (fun x : Int => timesLaw 13 x == ixor (ixor (ixor 0 x) (dblLaw (dblLaw x))) (dblLaw (dblLaw (dblLaw x)))) n) = true := by kernel_rfl
  intro x hx
  obtain ⟨n, rfl⟩ := Int.eq_ofNat_of_zero_le hx.1
  simpa using List.all_eq_true.1 this n (List.mem_range.2 (by omega))
theorem times_14 : ∀ x : Int, 0 ≤ x ∧ x < 256 → timesLaw 14 x = ixor (ixor (ixor 0 (dblLaw x)) (dblLaw (dblLaw x))) (dblLaw (dblLaw (dblLaw x))) := by
  have : ((List.range 256).all fun n : Nat => (fun x : Int => timesLaw 14 x == ixor (ixor (ixor 0 (dblLaw x)) (dblLaw (dblLaw x))) (dblLaw (dblLaw (dblLaw x)))) n) = true := by kernel_rfl
  intro x hx
  obtain ⟨n, rfl⟩ := Int.eq_ofNat_of_zero_le hx.1
  simpa using List.all_eq_true.1 this n (List.mem_range.2 (by omega))
theorem sm78_ok : SmOk prog (fun _ => none) 78 sm78 := by
  intro args T hc
  unfold sm78 at hc ⊢
  split at hc
  · rename_i x y
    obtain ⟨h1, h2, _⟩ := hc
    simp only [Con.h] at h1 h2
    have hx : 0 ≤ x ∧ x < 256 := by omega
    have d1 := dblLaw_lt (x := x)
    have d2 := dblLaw_lt (x := dblLaw x)
    have d3 := dblLaw_lt (x := dblLaw (dblLaw x))
    have z : (0 : Int) ≤ 0 ∧ (0 : Int) < 256 := by omega
    have hy : y = 1 ∨ y = 2 ∨ y = 3 ∨ y = 9 ∨ y = 11 ∨ y = 13 ∨ y = 14 := by
      simp only [mulOkLaw, Bool.or_eq_true, decide_eq_true_eq] at h2; omega
    simp only
    rcases hy with rfl | rfl | rfl | rfl | rfl | rfl | rfl
    · rw [times_1 x hx]
      refine small_of (R := R78_1 x) eM0_ok hmA (f := 78) (fn := f78) (by kernel_rfl) (by kernel_rfl) FnOrc.nil rfl (R78_1_ok ?_) R78_1_val R78_1_tab
      simp only [allP, Con.h, and_true]
      repeat' with_reducible apply And.intro
      all_goals first | omega | skip
      all_goals repeat' (first | exact nn8.2 hx | exact nn8.2 d1 | exact nn8.2 d2 | exact nn8.2 d3 | exact nn8.2 z | apply nn_xor)
    · rw [times_2 x hx]
      refine small_of (R := R78_2 x) eM0_ok hmA (f := 78) (fn := f78) (by kernel_rfl) (by kernel_rfl) FnOrc.nil rfl (R78_2_ok ?_) R78_2_val R78_2_tab
      simp only [allP, Con.h, and_true]
      repeat' with_reducible apply And.intro
      all_goals first | omega | skip
      all_goals repeat' (first | exact nn8.2 hx | exact nn8.2 d1 | exact nn8.2 d2 | exact nn8.2 d3 | exact nn8.2 z | apply nn_xor)
    · rw [times_3 x hx]
      refine small_of (R := R78_3 x) eM0_ok hmA (f := 78) (fn := f78) (by kernel_rfl) (by kernel_rfl) FnOrc.nil rfl (R78_3_ok ?_) R78_3_val R78_3_tab
      simp only [allP, Con.h, and_true]
      repeat' with_reducible apply And.intro
      all_goals first | omega | skip
      all_goals repeat' (first | exact nn8.2 hx | exact nn8.2 d1 | exact nn8.2 d2 | exact nn8.2 d3 | exact nn8.2 z | apply nn_xor)
    · rw [times_9 x hx]
      refine small_of (R := R78_9 x) eM0_ok hmA (f := 78) (fn := f78) (by kernel_rfl) (by kernel_rfl) FnOrc.nil rfl (R78_9_ok ?_) R78_9_val R78_9_tab
      simp only [allP, Con.h, and_true]
      repeat' with_reducible apply And.intro
      all_goals first | omega | skip
      all_goals repeat' (first | exact nn8.2 hx | exact nn8.2 d1 | exact nn8.2 d2 | exact nn8.2 d3 | exact nn8.2 z | apply nn_xor)
    · rw [times_11 x hx]
      refine small_of (R := R78_11 x) eM0_ok hmA (f := 78) (fn := f78) (by kernel_rfl) (by kernel_rfl) FnOrc.nil rfl (R78_11_ok ?_) R78_11_val R78_11_tab
      simp only [allP, Con.h, and_true]
      repeat' with_reducible apply And.intro
      all_goals first | omega | skip
      all_goals repeat' (first | exact nn8.2 hx | exact nn8.2 d1 | exact nn8.2 d2 | exact nn8.2 d3 | exact nn8.2 z | apply nn_xor)
    · rw [times_13 x hx]
      refine small_of (R := R78_13 x) eM0_ok hmA (f := 78) (fn := f78) (by kernel_rfl) (by kernel_rfl) FnOrc.nil rfl (R78_13_ok ?_) R78_13_val R78_13_tab
      simp only [allP, Con.h, and_true]
      repeat' with_reducible apply And.intro
      all_goals first | omega | skip
      all_goals repeat' (first | exact nn8.2 hx | exact nn8.2 d1 | exact nn8.2 d2 | exact nn8.2 d3 | exact nn8.2 z | apply nn_xor)
    · rw [times_14 x hx]
      refine small_of (R := R78_14 x) eM0_ok hmA (f := 78) (fn := f78) (by kernel_rfl) (by kernel_rfl) FnOrc.nil rfl (R78_14_ok ?_) R78_14_val R78_14_tab
      simp only [allP, Con.h, and_true]
      repeat' with_reducible apply And.intro
      all_goals first | omega | skip
      all_goals repeat' (first | exact nn8.2 hx | exact nn8.2 d1 | exact nn8.2 d2 | exact nn8.2 d3 | exact nn8.2 z | apply nn_xor)
  · exact absurd hc nofail
def S78 : Summary := callR sm78 []
theorem S78_ok : SumOk prog (fun _ => none) 78 S78 := callR_ok sm78_ok []
end Go.Abs

set_option linter.unusedVariables false
set_option linter.unusedSimpArgs false
set_option maxRecDepth 8000
namespace Go.Abs
open Go.Proofs.Try
/-! ### columns -/
def accLaw (m s : List Int) (i : Nat) : Nat → Int
  | 0 => 0
  | k + 1 => ixor (accLaw m s i k) (timesLaw (m.getD ((k + 4 - i % 4) % 4) 0) (s.getD (i / 4 * 4 + k) 0))
def stLaw (m s : List Int) (i k : Nat) : List Int := l16 fun j => if j < i then accLaw m s j 4 else if j = i then accLaw m s i k else 0
theorem l16_set (f : Nat → Int) (v : Int) : ∀ i, i < 16 → (l16 f).set i v = l16 fun j => if j = i then v else f j := by
  intro i hi
  match i, hi with
  | 0, _ => rfl | 1, _ => rfl | 2, _ => rfl | 3, _ => rfl | 4, _ => rfl | 5, _ => rfl | 6, _ => rfl | 7, _ => rfl
  | 8, _ => rfl | 9, _ => rfl | 10, _ => rfl | 11, _ => rfl | 12, _ => rfl | 13, _ => rfl | 14, _ => rfl | 15, _ => rfl
  | n + 16, h => exact absurd h (by omega)
theorem stLaw_len (m s : List Int) (i k : Nat) : (stLaw m s i k).length = 16 := rfl
theorem stLaw_get {m s : List Int} {i k : Nat} (hi : i < 16) : (stLaw m s i k).getD i 0 = accLaw m s i k := by
  unfold stLaw; rw [l16_get _ _ hi, if_neg (by omega), if_pos rfl]
theorem stLaw_step {m s : List Int} {i k : Nat} (hi : i < 16) : (stLaw m s i k).set i (ixor ((stLaw m s i k).getD i 0) (timesLaw (m.getD ((k + 4 - i % 4) % 4) 0) (s.getD (i / 4 * 4 + k) 0))) = stLaw m s i (k + 1) := by
  rw [stLaw_get hi]
  show (stLaw m s i k).set i (accLaw m s i (k + 1)) = _
  unfold stLaw
  rw [l16_set _ _ _ hi]
  refine l16_congr fun j hj => ?_
  by_cases e : j = i
  · subst e; rw [if_pos rfl, if_neg (by omega), if_pos rfl]
  · rw [if_neg e, if_neg e, if_neg e]
theorem stLaw_next (m s : List Int) (i : Nat) : stLaw m s (i + 1) 0 = stLaw m s i 4 := by
  unfold stLaw
  refine l16_congr fun j hj => ?_
  by_cases e : j < i
  · rw [if_pos e, if_pos (by omega)]
  · by_cases e2 : j = i
    · subst e2; rw [if_pos (by omega), if_neg e, if_pos rfl]
    · rw [if_neg (by omega), if_neg e, if_neg e2]; split <;> rfl
theorem stLaw_zero (m s : List Int) : stLaw m s 0 0 = List.replicate 16 0 := by
  show _ = l16 fun _ => 0
  unfold stLaw
  exact l16_congr fun j hj => by rw [if_neg (by omega)]; split <;> rfl
theorem stLaw_end (m s : List Int) : stLaw m s 15 4 = mixByLaw timesLaw m s := by
  rw [← stLaw_next]
  unfold stLaw mixByLaw
  exact l16_congr fun j hj => by rw [if_pos hj]; rfl
def mOk (m : List Int) : Prop := ∀ j, j < 4 → mulOkLaw (m.getD j 0) = true ∧ 0 ≤ m.getD j 0 ∧ m.getD j 0 < 256
theorem mOk_a : mOk [2, 3, 1, 1] := by
  intro j hj
  match j, hj with
  | 0, _ => exact ⟨by decide, by decide, by decide⟩ | 1, _ => exact ⟨by decide, by decide, by decide⟩ | 2, _ => exact ⟨by decide, by decide, by decide⟩ | 3, _ => exact ⟨by decide, by decide, by decide⟩
theorem mOk_b : mOk [14, 11, 13, 9] := by
  intro j hj
  match j, hj with
  | 0, _ => exact ⟨by decide, by decide, by decide⟩ | 1, _ => exact ⟨by decide, by decide, by decide⟩ | 2, _ => exact ⟨by decide, by decide, by decide⟩ | 3, _ => exact ⟨by decide, by decide, by decide⟩
theorem accLaw_rng {m s : List Int} (hm : mOk m) (i : Nat) : ∀ k, 0 ≤ accLaw m s i k ∧ accLaw m s i k < 256
  | 0 => by simp [accLaw]
  | k + 1 => ixor_lt8 (accLaw_rng hm i k) (timesLaw_lt (hm _ (Nat.mod_lt _ (by decide))).2)
theorem stLaw_bytes {m s : List Int} (hm : mOk m) (i k : Nat) : Bytes (stLaw m s i k) := l16_bytes fun j _ => by
  split
  · exact accLaw_rng hm _ _
  · split
    · exact accLaw_rng hm _ _
    · decide
theorem rem_idx {i k : Nat} (hk : k < 4) : ((k : Int) - (i : Int).tmod 4 + 4).tmod 4 = (((k + 4 - i % 4) % 4 : Nat) : Int) := by
  have e : (i : Int).tmod 4 = ((i % 4 : Nat) : Int) := by rw [Int.tmod_eq_emod_of_nonneg (by omega)]; omega
  rw [e, Int.tmod_eq_emod_of_nonneg (by omega)]
  omega
theorem rem_idx' {r k : Nat} (hk : k < 4) (hr : r < 4) : ((k : Int) - r + 4).tmod 4 = (((k + 4 - r) % 4 : Nat) : Int) := by
  rw [Int.tmod_eq_emod_of_nonneg (by omega)]
  omega
theorem andn_idx : ∀ i : Nat, i < 16 → iandNot .i64 (i : Int) 3 = ((i / 4 * 4 : Nat) : Int) := by
  intro i hi
  match i, hi with
  | 0, _ => rfl | 1, _ => rfl | 2, _ => rfl | 3, _ => rfl | 4, _ => rfl | 5, _ => rfl | 6, _ => rfl | 7, _ => rfl
  | 8, _ => rfl | 9, _ => rfl | 10, _ => rfl | 11, _ => rfl | 12, _ => rfl | 13, _ => rfl | 14, _ => rfl | 15, _ => rfl
  | n + 16, h => exact absurd h (by omega)
noncomputable def eM1 : Env := eA [(78, S78)]
theorem eM1_ok : EnvOk eM1 := envOf_ok tysA_ok (SumsOk.cons (fn := f78) S78_ok (by kernel_rfl) (by kernel_rfl) (by kernel_rfl) trivial)
noncomputable def C69 (i j k : Int) (s m z xs : List Int) : Out := trim 4 4 [2,3,4,5,6,8,11] (run eM1 37 ⟨4, []⟩ 400 (roundOf 2 f69) [(2, .var 0 0), (3, .var 1 0), (4, .var 2 0), (5, .var 3 0), (6, .int .i64 i), (8, .int .i64 j), (11, .int .i64 k)] [some ⟨.ints .u8 s, 0, true, 48⟩, some ⟨.ints .u8 m, 0, true, 74⟩, some ⟨.ints .u8 z, 0, true, 48⟩, some ⟨.ints .u8 xs, 0, true, 48⟩] [some true])
theorem C69_ok {i j k : Int} {s m z xs : List Int} (h : allP [.p (decide (k < 4) = true), .leI 0 i, .leI (i + 1) 16, .leI 0 i, .leI (i + 1) 16, .leN (i.toNat + 1) xs.length, .leN (i.toNat + 1) xs.length, .nn .i64 i, .rng (-9223372036854775808) (iandNot .i64 i 3 + k) 9223372036854775807, .leI 0 (iandNot .i64 i 3 + k), .leI (iandNot .i64 i 3 + k + 1) 16, .leN ((iandNot .i64 i 3 + k).toNat + 1)
 s.length, .rng (-9223372036854775808) (k - i.tmod 4) 9223372036854775807, .rng (-9223372036854775808) (k - i.tmod 4 + 4) 9223372036854775807, .leI 0 ((k - i.tmod 4 + 4).tmod 4), .leI ((k - i.tmod 4 + 4).tmod 4 + 1) 4, .leN (((k - i.tmod 4 + 4).tmod 4).toNat + 1) m.length, .rng 0 (s.getD (iandNot .i64 i 3 + k).toNat 0) 255, .tt (mulOkLaw (m.getD ((k - i.tmod 4 + 4).tmod 4).toNat 0)), .nn .u8
 (xs.getD i.toNat 0), .nn .u8 (timesLaw (m.getD ((k - i.tmod 4 + 4).tmod 4).toNat 0) (s.getD (iandNot .i64 i 3 + k).toNat 0)), .leI 0 i, .leI (i + 1) 16, .leN (i.toNat + 1) xs.length, .rng (-9223372036854775808) (k + 1) 9223372036854775807]) : Ok (C69 i j k s m z xs) := Ok.dem (fl := bitsF 46 12646073046304) (by kernel_rfl) (by kernel_rfl) (by kernel_rfl) h
theorem C69_ex {i j k : Int} {s m z xs : List Int} : (C69 i j k s m z xs).ex = .normal := by kernel_rfl
theorem C69_fm {i j k : Int} {s m z xs : List Int} : (C69 i j k s m z xs).fm = [(2, .var 0 0), (3, .var 1 0), (4, .var 2 0), (5, .var 3 0), (6, .int .i64 i), (8, .int .i64 j), (11, .int .i64 (k + 1))] := by kernel_rfl
theorem C69_tab {i j k : Int} {s m z xs : List Int} : (C69 i j k s m z xs).tab = [some ⟨.ints .u8 s, 0, true, 48⟩, some ⟨.ints .u8 m, 0, true, 74⟩, some ⟨.ints .u8 z, 0, true, 48⟩, some ⟨.ints .u8 (xs.set i.toNat (ixor (xs.getD i.toNat 0) (timesLaw (m.getD ((k - i.tmod 4 + 4).tmod 4).toNat 0) (s.getD (iandNot .i64 i 3 + k).toNat 0)))), 0, true, 48⟩] := by kernel_rfl
noncomputable def D69 (i j k : Int) (s m z xs : List Int) : Out := trim 4 4 [2,3,4,5,6,8] (run eM1 37 ⟨4, []⟩ 400 (roundOf 2 f69) [(2, .var 0 0), (3, .var 1 0), (4, .var 2 0), (5, .var 3 0), (6, .int .i64 i), (8, .int .i64 j), (11, .int .i64 k)] [some ⟨.ints .u8 s, 0, true, 48⟩, some ⟨.ints .u8 m, 0, true, 74⟩, some ⟨.ints .u8 z, 0, true, 48⟩, some ⟨.ints .u8 xs, 0, true, 48⟩] [some false])
theorem D69_ok {i j k : Int} {s m z xs : List Int} (h : allP [.p (decide (k < 4) = false)]) : Ok (D69 i j k s m z xs) := Ok.dem (fl := [false]) (by kernel_rfl) (by kernel_rfl) (by kernel_rfl) h
theorem D69_ex {i j k : Int} {s m z xs : List Int} : (D69 i j k s m z xs).ex = .exit 2 := by kernel_rfl
theorem D69_fm {i j k : Int} {s m z xs : List Int} : (D69 i j k s m z xs).fm = [(2, .var 0 0), (3, .var 1 0), (4, .var 2 0), (5, .var 3 0), (6, .int .i64 i), (8, .int .i64 j)] := by kernel_rfl
theorem D69_tab {i j k : Int} {s m z xs : List Int} : (D69 i j k s m z xs).tab = [some ⟨.ints .u8 s, 0, true, 48⟩, some ⟨.ints .u8 m, 0, true, 74⟩, some ⟨.ints .u8 z, 0, true, 48⟩, some ⟨.ints .u8 xs, 0, true, 48⟩] := by kernel_rfl
def F69 (i : Nat) (j : Int) (k : Nat) : Fm := [(2, .var 0 0), (3, .var 1 0), (4, .var 2 0), (5, .var 3 0), (6, .int .i64 i), (8, .int .i64 j), (11, .int .i64 k)]
def T69 (s m z : List Int) (i k : Nat) : Tab := [some ⟨.ints .u8 s, 0, true, 48⟩, some ⟨.ints .u8 m, 0, true, 74⟩, some ⟨.ints .u8 z, 0, true, 48⟩, some ⟨.ints .u8 (stLaw m s i k), 0, true, 48⟩]
theorem loop69 {s m z : List Int} (hs : s.length = 16) (hb : Bytes s) (hml : m.length = 4) (hm : mOk m) {i : Nat} (hi : i < 16) {j : Int} :
    To eM1 37 4 (.block 2 (.loop (roundOf 2 f69))) (F69 i j 0) (T69 s m z i 0) .normal [(2, .var 0 0), (3, .var 1 0), (4, .var 2 0), (5, .var 3 0), (6, .int .i64 i), (8, .int .i64 j)] (T69 s m z i 4) := by
  refine To.rounds (F69 i j) (T69 s m z i) 4 (fun k hk => ?_) ?_
  · have hl := stLaw_len m s i k
    have hx := (stLaw_bytes (s := s) hm i k).get i
    have q1 := hm ((k + 4 - i % 4) % 4) (Nat.mod_lt _ (by decide))
    have q2 := timesLaw_lt (b := s.getD (i / 4 * 4 + k) 0) q1.2
    have q3 := hb.get (i / 4 * 4 + k)
    have e2 : (((i / 4 * 4 : Nat) : Int) + k).toNat = i / 4 * 4 + k := by omega
    have e3 : (k + 4 - i % 4) % 4 < 4 := Nat.mod_lt _ (by decide)
    refine To.of (o := C69 i j k s m z (stLaw m s i k)) eM1_ok hmA (Nat.le_refl 4) OrcOk.nil rfl (C69_ok ?_) C69_ex ?_ ?_
    · rw [andn_idx i hi, rem_idx hk, e2, Int.toNat_natCast, Int.toNat_natCast]
      simp only [allP, Con.h, hl, hs, hml, nn8, decide_eq_true_eq, and_true]
      generalize (k + 4 - i % 4) % 4 = jj at *
      have n1 : nonneg .i64 (i : Int) := ⟨by omega, by omega⟩
      have e5 : (i : Int).tmod 4 = ((i % 4 : Nat) : Int) := by rw [Int.tmod_eq_emod_of_nonneg (by omega)]; omega
      rw [e5]
      repeat' with_reducible apply And.intro
      all_goals first | omega | exact q1.1 | exact n1 | skip
    · rw [C69_fm]; rfl
    · rw [C69_tab, andn_idx i hi, rem_idx hk, e2, Int.toNat_natCast, Int.toNat_natCast, stLaw_step hi]; rfl
  · exact To.of (o := D69 i j (4 : Nat) s m z (stLaw m s i 4)) eM1_ok hmA (Nat.le_refl 4) OrcOk.nil rfl (D69_ok (by simp [allP, Con.h])) D69_ex D69_fm D69_tab
def g69 : List AVal → Tab → Out := fun vs T => match vs, T with
  | [.var 0 0, .var 1 0, .var 2 0, .var 3 0, .int .i64 i, .int .i64 j, .int .i64 k], [some ⟨.ints .u8 s, 0, true, 48⟩, some ⟨.ints .u8 m, 0, true, 74⟩, some ⟨.ints .u8 z, 0, true, 48⟩, some ⟨.ints .u8 xs, 0, true, 48⟩] =>
    ⟨[.rng 0 k 0, .rng 0 i 15, .eqN s.length 16, .eqN m.length 4, .p (Bytes s), .p (mOk m), .p (xs = stLaw m s i.toNat 0)], .normal, [(2, .var 0 0), (3, .var 1 0), (4, .var 2 0), (5, .var 3 0), (6, .int .i64 i), (8, .int .i64 j)],
      [some ⟨.ints .u8 s, 0, true, 48⟩, some ⟨.ints .u8 m, 0, true, 74⟩, some ⟨.ints .u8 z, 0, true, 48⟩, some ⟨.ints .u8 (stLaw m s i.toNat 4), 0, true, 48⟩], []⟩
  | _, _ => failO
theorem g69_ok : BlkOk eM1 f69 2 (.loop (roundOf 2 f69)) (blkS 4 [2,3,4,5,6,8,11] g69) := by
  refine blkS_ok fun vs T h => ?_
  unfold g69 at h ⊢
  split at h
  · rename_i i j k s m z xs
    obtain ⟨h1, h2, h3, h4, h5, h6, h7, _⟩ := h.h
    simp only [Con.h] at h1 h2 h3 h4 h5 h6 h7
    obtain rfl : k = 0 := by omega
    obtain ⟨n, rfl⟩ : ∃ n : Nat, i = n := ⟨i.toNat, by omega⟩
    rw [Int.toNat_natCast] at h7
    subst h7
    exact loop69 h3 h5 h4 h6 (by omega)
  · exact absurd h nofailO
noncomputable def orc69 : OrcL := [(2, blkS 4 [2,3,4,5,6,8,11] g69)]
theorem orc69_ok : FnOrc eM1 f69 orc69 := FnOrc.cons g69_ok (by kernel_rfl) FnOrc.nil
noncomputable def R69 (s m : List Int) : Res := runF eM1 f69 orc69 2000 [.ints .u8 s, .ints .u8 m] [] []
theorem R69_ok {s m : List Int} (h : allP [.eqN s.length 16, .eqN m.length 4, .p (Bytes s), .p (mOk m), .p ([0, 0, 0, 0, 0, 0, 0, 0, 0, 0, 0, 0, 0, 0, 0, 0] = stLaw m s 0 0), .eqN s.length 16, .eqN m.length 4, .p (Bytes s), .p (mOk m), .p (stLaw m s 0 4 = stLaw m s 1 0), .eqN s.length 16, .eqN m.length 4, .p (Bytes s), .p (mOk m), .p (stLaw m s 1 4 = stLaw m s 2 0), .eqN s.length 16, .eqN m.length
 4, .p (Bytes s), .p (mOk m), .p (stLaw m s 2 4 = stLaw m s 3 0), .eqN s.length 16, .eqN m.length 4, .p (Bytes s), .p (mOk m), .p (stLaw m s 3 4 = stLaw m s 4 0), .eqN s.length 16, .eqN m.length 4, .p (Bytes s), .p (mOk m), .p (stLaw m s 4 4 = stLaw m s 5 0), .eqN s.length 16, .eqN m.length 4, .p (Bytes s), .p (mOk m), .p (stLaw m s 5 4 = stLaw m s 6 0), .eqN s.length 16, .eqN m.length 4, .p (Bytes
 s), .p (mOk m), .p (stLaw m s 6 4 = stLaw m s 7 0), .eqN s.length 16, .eqN m.length 4, .p (Bytes s), .p (mOk m), .p (stLaw m s 7 4 = stLaw m s 8 0), .eqN s.length 16, .eqN m.length 4, .p (Bytes s), .p (mOk m), .p (stLaw m s 8 4 = stLaw m s 9 0), .eqN s.length 16, .eqN m.length 4, .p (Bytes s), .p (mOk m), .p (stLaw m s 9 4 = stLaw m s 10 0), .eqN s.length 16, .eqN m.length 4, .p (Bytes s), .p (mOk
 m), .p (stLaw m s 10 4 = stLaw m s 11 0), .eqN s.length 16, .eqN m.length 4, .p (Bytes s), .p (mOk m), .p (stLaw m s 11 4 = stLaw m s 12 0), .eqN s.length 16, .eqN m.length 4, .p (Bytes s), .p (mOk m), .p (stLaw m s 12 4 = stLaw m s 13 0), .eqN s.length 16, .eqN m.length 4, .p (Bytes s), .p (mOk m), .p (stLaw m s 13 4 = stLaw m s 14 0), .eqN s.length 16, .eqN m.length 4, .p (Bytes s), .p (mOk m),
 .p (stLaw m s 14 4 = stLaw m s 15 0)]) : OkR (R69 s m) := OkR.dem (fl := bitsF 136 86946815290590849119292689889507017982851) (by kernel_rfl) (by kernel_rfl) (by kernel_rfl) h
theorem R69_val {s m : List Int} : (R69 s m).val = .ints .u8 (stLaw m s 15 4) := by kernel_rfl
theorem R69_tab {s m : List Int} : (R69 s m).tab = [some ⟨.ints .u8 s, 0, true, 48⟩, some ⟨.ints .u8 m, 0, true, 74⟩, some ⟨.ints .u8 (stLaw m s 15 4), 0, true, 48⟩, some ⟨.ints .u8 (stLaw m s 15 4), 0, true, 48⟩] := by kernel_rfl
/-! of the document -/
noncomputable def eM2 : Env := eA [(67, S67)]
theorem eM2_ok : EnvOk eM2 := envOf_ok tysA_ok (SumsOk.cons (fn := f67) S67_ok (by kernel_rfl) (by kernel_rfl) (by kernel_rfl) trivial)
noncomputable def C50 (c r k : Int) (s m xs : List Int) (g0 g1 : Nat) (cp0 cp1 : Option Nat) (ow0 ow1 : Bool) : Out := trim 3 3 [0,1,5,6,7,8] (run eM2 53 ⟨3, []⟩ 400 (roundOf 4 f50) [(0, .slice 1 0 g0 0 16 cp0), (1, .slice 1 1 g1 0 4 cp1), (5, .slice 1 2 0 0 16 (some 16)), (6, .int .i64 c), (7, .int .i64 r), (8, .int .i64 k)] [some ⟨.ints .u8 s, g0, ow0, 5⟩, some ⟨.ints .u8 m, g1, ow1, 5⟩, some ⟨.ints .u8 xs, 0, true, 5⟩] [some true])
theorem C50_ok {c r k : Int} {s m xs : List Int} {g0 g1 : Nat} {cp0 cp1 : Option Nat} {ow0 ow1 : Bool} (h : allP [.p (decide (k < 4) = true), .rng (-9223372036854775808) (4 * c) 9223372036854775807, .rng (-9223372036854775808) (4 * c) 9223372036854775807, .rng (-9223372036854775808) (4 * c + r) 9223372036854775807, .rng (-9223372036854775808) (4 * c + r) 9223372036854775807, .rng
 (-9223372036854775808) (4 * c) 9223372036854775807, .rng (-9223372036854775808) (4 * c) 9223372036854775807, .rng (-9223372036854775808) (4 * c + r) 9223372036854775807, .rng (-9223372036854775808) (4 * c + r) 9223372036854775807, .leI 0 (4 * c + r), .leI (4 * c + r + 1) 16, .leI 0 (4 * c + r), .leI (4 * c + r + 1) 16, .leN ((4 * c + r).toNat + 1) xs.length, .leN ((4 * c + r).toNat + 1) xs.length,
 .rng (-9223372036854775808) (k - r) 9223372036854775807, .rng (-9223372036854775808) (k - r + 4) 9223372036854775807, .eqN g1 g1, .leI 0 ((k - r + 4).tmod 4), .leI ((k - r + 4).tmod 4 + 1) 4, .eqN g1 g1, .leN (((k - r + 4).tmod 4).toNat + 1) m.length, .rng (-9223372036854775808) (4 * c) 9223372036854775807, .rng (-9223372036854775808) (4 * c + k) 9223372036854775807, .eqN g0 g0, .leI 0 (4 * c + k),
 .leI (4 * c + k + 1) 16, .eqN g0 g0, .leN ((4 * c + k).toNat + 1) s.length, .rng 0 (m.getD ((k - r + 4).tmod 4).toNat 0) 255, .rng 0 (s.getD (4 * c + k).toNat 0) 255, .nn .u8 (xs.getD (4 * c + r).toNat 0), .nn .u8 (timesLaw (m.getD ((k - r + 4).tmod 4).toNat 0) (s.getD (4 * c + k).toNat 0)), .leI 0 (4 * c + r), .leI (4 * c + r + 1) 16, .leN ((4 * c + r).toNat + 1) xs.length, .rng
 (-9223372036854775808) (k + 1) 9223372036854775807]) : Ok (C50 c r k s m xs g0 g1 cp0 cp1 ow0 ow1) := Ok.dem (fl := bitsF 61 400820384696369152) (by kernel_rfl) (by kernel_rfl) (by kernel_rfl) h
theorem C50_ex {c r k : Int} {s m xs : List Int} {g0 g1 : Nat} {cp0 cp1 : Option Nat} {ow0 ow1 : Bool} : (C50 c r k s m xs g0 g1 cp0 cp1 ow0 ow1).ex = .normal := by kernel_rfl
theorem C50_fm {c r k : Int} {s m xs : List Int} {g0 g1 : Nat} {cp0 cp1 : Option Nat} {ow0 ow1 : Bool} : (C50 c r k s m xs g0 g1 cp0 cp1 ow0 ow1).fm = [(0, .slice 1 0 g0 0 16 cp0), (1, .slice 1 1 g1 0 4 cp1), (5, .slice 1 2 0 0 16 (some 16)), (6, .int .i64 c), (7, .int .i64 r), (8, .int .i64 (k + 1))] := by kernel_rfl
theorem C50_tab {c r k : Int} {s m xs : List Int} {g0 g1 : Nat} {cp0 cp1 : Option Nat} {ow0 ow1 : Bool} : (C50 c r k s m xs g0 g1 cp0 cp1 ow0 ow1).tab = [some ⟨.ints .u8 s, g0, ow0, 5⟩, some ⟨.ints .u8 m, g1, ow1, 5⟩, some ⟨.ints .u8 (xs.set (4 * c + r).toNat (ixor (xs.getD (4 * c + r).toNat 0) (timesLaw (m.getD ((k - r + 4).tmod 4).toNat 0) (s.getD (4 * c + k).toNat 0)))), 0, true, 5⟩] := by
 kernel_rfl
noncomputable def D50 (c r k : Int) (s m xs : List Int) (g0 g1 : Nat) (cp0 cp1 : Option Nat) (ow0 ow1 : Bool) : Out := trim 3 3 [0,1,5,6,7] (run eM2 53 ⟨3, []⟩ 400 (roundOf 4 f50) [(0, .slice 1 0 g0 0 16 cp0), (1, .slice 1 1 g1 0 4 cp1), (5, .slice 1 2 0 0 16 (some 16)), (6, .int .i64 c), (7, .int .i64 r), (8, .int .i64 k)] [some ⟨.ints .u8 s, g0, ow0, 5⟩, some ⟨.ints .u8 m, g1, ow1, 5⟩, some ⟨.ints .u8 xs, 0, true, 5⟩] [some false])
theorem D50_ok {c r k : Int} {s m xs : List Int} {g0 g1 : Nat} {cp0 cp1 : Option Nat} {ow0 ow1 : Bool} (h : allP [.p (decide (k < 4) = false)]) : Ok (D50 c r k s m xs g0 g1 cp0 cp1 ow0 ow1) := Ok.dem (fl := [false]) (by kernel_rfl) (by kernel_rfl) (by kernel_rfl) h
theorem D50_ex {c r k : Int} {s m xs : List Int} {g0 g1 : Nat} {cp0 cp1 : Option Nat} {ow0 ow1 : Bool} : (D50 c r k s m xs g0 g1 cp0 cp1 ow0 ow1).ex = .exit 4 := by kernel_rfl
theorem D50_fm {c r k : Int} {s m xs : List Int} {g0 g1 : Nat} {cp0 cp1 : Option Nat} {ow0 ow1 : Bool} : (D50 c r k s m xs g0 g1 cp0 cp1 ow0 ow1).fm = [(0, .slice 1 0 g0 0 16 cp0), (1, .slice 1 1 g1 0 4 cp1), (5, .slice 1 2 0 0 16 (some 16)), (6, .int .i64 c), (7, .int .i64 r)] := by kernel_rfl
theorem D50_tab {c r k : Int} {s m xs : List Int} {g0 g1 : Nat} {cp0 cp1 : Option Nat} {ow0 ow1 : Bool} : (D50 c r k s m xs g0 g1 cp0 cp1 ow0 ow1).tab = [some ⟨.ints .u8 s, g0, ow0, 5⟩, some ⟨.ints .u8 m, g1, ow1, 5⟩, some ⟨.ints .u8 xs, 0, true, 5⟩] := by kernel_rfl
def F50 (c r : Nat) (g0 g1 : Nat) (cp0 cp1 : Option Nat) (k : Nat) : Fm := [(0, .slice 1 0 g0 0 16 cp0), (1, .slice 1 1 g1 0 4 cp1), (5, .slice 1 2 0 0 16 (some 16)), (6, .int .i64 c), (7, .int .i64 r), (8, .int .i64 k)]
def T50 (s m : List Int) (g0 g1 : Nat) (ow0 ow1 : Bool) (i k : Nat) : Tab := [some ⟨.ints .u8 s, g0, ow0, 5⟩, some ⟨.ints .u8 m, g1, ow1, 5⟩, some ⟨.ints .u8 (stLaw m s i k), 0, true, 5⟩]
theorem loop50 {s m : List Int} (hs : s.length = 16) (hb : Bytes s) (hml : m.length = 4) (hm : mOk m) {c r : Nat} (hc : c < 4) (hr : r < 4) {g0 g1 : Nat} {cp0 cp1 : Option Nat} {ow0 ow1 : Bool} :
    To eM2 53 3 (.block 4 (.loop (roundOf 4 f50))) (F50 c r g0 g1 cp0 cp1 0) (T50 s m g0 g1 ow0 ow1 (4 * c + r) 0) .normal [(0, .slice 1 0 g0 0 16 cp0), (1, .slice 1 1 g1 0 4 cp1), (5, .slice 1 2 0 0 16 (some 16)), (6, .int .i64 c), (7, .int .i64 r)] (T50 s m g0 g1 ow0 ow1 (4 * c + r) 4) := by
  refine To.rounds (F50 c r g0 g1 cp0 cp1) (T50 s m g0 g1 ow0 ow1 (4 * c + r)) 4 (fun k hk => ?_) ?_
  · have hl := stLaw_len m s (4 * c + r) k
    have hx := (stLaw_bytes (s := s) hm (4 * c + r) k).get (4 * c + r)
    have q1 := hm ((k + 4 - r) % 4) (Nat.mod_lt _ (by decide))
    have q2 := timesLaw_lt (b := s.getD (4 * c + k) 0) q1.2
    have q3 := hb.get (4 * c + k)
    have e1 : (4 * (c : Int) + r).toNat = 4 * c + r := by omega
    have e2 : (4 * (c : Int) + k).toNat = 4 * c + k := by omega
    have e3 : (k + 4 - r) % 4 < 4 := Nat.mod_lt _ (by decide)
    have e4 := stLaw_step (m := m) (s := s) (i := 4 * c + r) (k := k) (by omega)
    rw [show (4 * c + r) % 4 = r by omega, show (4 * c + r) / 4 * 4 = 4 * c by omega] at e4
    refine To.of (o := C50 c r k s m (stLaw m s (4 * c + r) k) g0 g1 cp0 cp1 ow0 ow1) eM2_ok hmA (Nat.le_refl 3) OrcOk.nil rfl (C50_ok ?_) C50_ex ?_ ?_
    · rw [rem_idx' hk hr, e1, e2, Int.toNat_natCast]
      simp only [allP, Con.h, hl, hs, hml, nn8, decide_eq_true_eq, eq_self, true_and, and_true]
      generalize (k + 4 - r) % 4 = jj at *
      repeat' with_reducible apply And.intro
      all_goals first | omega | exact q1.1 | skip
    · rw [C50_fm]; rfl
    · rw [C50_tab, rem_idx' hk hr, e1, e2, Int.toNat_natCast, e4]; rfl
  · exact To.of (o := D50 c r (4 : Nat) s m (stLaw m s (4 * c + r) 4) g0 g1 cp0 cp1 ow0 ow1) eM2_ok hmA (Nat.le_refl 3) OrcOk.nil rfl (D50_ok (by simp [allP, Con.h])) D50_ex D50_fm D50_tab
def g50 : List AVal → Tab → Out := fun vs T => match vs, T with
  | [.slice 1 0 g0 0 16 cp0, .slice 1 1 g1 0 4 cp1, .slice 1 2 0 0 16 (some 16), .int .i64 c, .int .i64 r, .int .i64 k], [some ⟨.ints .u8 s, g0', ow0, 5⟩, some ⟨.ints .u8 m, g1', ow1, 5⟩, some ⟨.ints .u8 xs, 0, true, 5⟩] =>
    ⟨[.eqN g0 g0', .eqN g1 g1', .rng 0 k 0, .rng 0 c 3, .rng 0 r 3, .eqN s.length 16, .eqN m.length 4, .p (Bytes s), .p (mOk m), .p (xs = stLaw m s (4 * c + r).toNat 0)], .normal, [(0, .slice 1 0 g0 0 16 cp0), (1, .slice 1 1 g1 0 4 cp1), (5, .slice 1 2 0 0 16 (some 16)), (6, .int .i64 c), (7, .int .i64 r)],
      [some ⟨.ints .u8 s, g0', ow0, 5⟩, some ⟨.ints .u8 m, g1', ow1, 5⟩, some ⟨.ints .u8 (stLaw m s (4 * c + r).toNat 4), 0, true, 5⟩], []⟩
  | _, _ => failO
theorem g50_ok : BlkOk eM2 f50 4 (.loop (roundOf 4 f50)) (blkS 3 [0,1,5,6,7,8] g50) := by
  refine blkS_ok fun vs T h => ?_
  unfold g50 at h ⊢
  split at h
  · rename_i g0 cp0 g1 cp1 c r k s g0' ow0 m g1' ow1 xs
    obtain ⟨h1, h2, h3, h4, h5, h6, h7, h8, h9, h10, _⟩ := h.h
    simp only [Con.h] at h1 h2 h3 h4 h5 h6 h7 h8 h9 h10
    subst h1 h2
    obtain rfl : k = 0 := by omega
    obtain ⟨a, rfl⟩ : ∃ n : Nat, c = n := ⟨c.toNat, by omega⟩
    obtain ⟨b, rfl⟩ : ∃ n : Nat, r = n := ⟨r.toNat, by omega⟩
    rw [show (4 * (a : Int) + b).toNat = 4 * a + b by omega] at h10 ⊢
    subst h10
    exact loop50 h6 h8 h7 h9 (by omega) (by omega)
  · exact absurd h nofailO
noncomputable def orc50 : OrcL := [(4, blkS 3 [0,1,5,6,7,8] g50)]
theorem orc50_ok : FnOrc eM2 f50 orc50 := FnOrc.cons g50_ok (by kernel_rfl) FnOrc.nil
noncomputable def R50 (s m : List Int) (g0 g1 : Nat) (cp0 cp1 : Option Nat) (ow0 ow1 : Bool) : Res := runF eM2 f50 orc50 2000 [.slice 1 0 g0 0 16 cp0, .slice 1 1 g1 0 4 cp1] [some ⟨.ints .u8 s, g0, ow0, 5⟩, some ⟨.ints .u8 m, g1, ow1, 5⟩] []
theorem R50_ok {s m : List Int} {g0 g1 : Nat} {cp0 cp1 : Option Nat} {ow0 ow1 : Bool} (h : allP [.eqN g0 g0, .eqN g1 g1, .eqN s.length 16, .eqN m.length 4, .p (Bytes s), .p (mOk m), .p ([0, 0, 0, 0, 0, 0, 0, 0, 0, 0, 0, 0, 0, 0, 0, 0] = stLaw m s 0 0), .eqN g0 g0, .eqN g1 g1, .eqN s.length 16, .eqN m.length 4, .p (Bytes s), .p (mOk m), .p (stLaw m s 0 4 = stLaw m s 1 0), .eqN g0 g0, .eqN g1 g1,
 .eqN s.length 16, .eqN m.length 4, .p (Bytes s), .p (mOk m), .p (stLaw m s 1 4 = stLaw m s 2 0), .eqN g0 g0, .eqN g1 g1, .eqN s.length 16, .eqN m.length 4, .p (Bytes s), .p (mOk m), .p (stLaw m s 2 4 = stLaw m s 3 0), .eqN g0 g0, .eqN g1 g1, .eqN s.length 16, .eqN m.length 4, .p (Bytes s), .p (mOk m), .p (stLaw m s 3 4 = stLaw m s 4 0), .eqN g0 g0, .eqN g1 g1, .eqN s.length 16, .eqN m.length 4, .p
 (Bytes s), .p (mOk m), .p (stLaw m s 4 4 = stLaw m s 5 0), .eqN g0 g0, .eqN g1 g1, .eqN s.length 16, .eqN m.length 4, .p (Bytes s), .p (mOk m), .p (stLaw m s 5 4 = stLaw m s 6 0), .eqN g0 g0, .eqN g1 g1, .eqN s.length 16, .eqN m.length 4, .p (Bytes s), .p (mOk m), .p (stLaw m s 6 4 = stLaw m s 7 0), .eqN g0 g0, .eqN g1 g1, .eqN s.length 16, .eqN m.length 4, .p (Bytes s), .p (mOk m), .p (stLaw m s 7
 4 = stLaw m s 8 0), .eqN g0 g0, .eqN g1 g1, .eqN s.length 16, .eqN m.length 4, .p (Bytes s), .p (mOk m), .p (stLaw m s 8 4 = stLaw m s 9 0), .eqN g0 g0, .eqN g1 g1, .eqN s.length 16, .eqN m.length 4, .p (Bytes s), .p (mOk m), .p (stLaw m s 9 4 = stLaw m s 10 0), .eqN g0 g0, .eqN g1 g1, .eqN s.length 16, .eqN m.length 4, .p (Bytes s), .p (mOk m), .p (stLaw m s 10 4 = stLaw m s 11 0), .eqN g0 g0,
 .eqN g1 g1, .eqN s.length 16, .eqN m.length 4, .p (Bytes s), .p (mOk m), .p (stLaw m s 11 4 = stLaw m s 12 0), .eqN g0 g0, .eqN g1 g1, .eqN s.length 16, .eqN m.length 4, .p (Bytes s), .p (mOk m), .p (stLaw m s 12 4 = stLaw m s 13 0), .eqN g0 g0, .eqN g1 g1, .eqN s.length 16, .eqN m.length 4, .p (Bytes s), .p (mOk m), .p (stLaw m s 13 4 = stLaw m s 14 0), .eqN g0 g0, .eqN g1 g1, .eqN s.length 16,
 .eqN m.length 4, .p (Bytes s), .p (mOk m), .p (stLaw m s 14 4 = stLaw m s 15 0)]) : OkR (R50 s m g0 g1 cp0 cp1 ow0 ow1) := OkR.dem (fl := bitsF 184 18560639691816054364102661413163713510555792600376164815) (by kernel_rfl) (by kernel_rfl) (by kernel_rfl) h
theorem R50_val {s m : List Int} {g0 g1 : Nat} {cp0 cp1 : Option Nat} {ow0 ow1 : Bool} : (R50 s m g0 g1 cp0 cp1 ow0 ow1).val = .slice 1 2 0 0 16 (some 16) := by kernel_rfl
theorem R50_tab {s m : List Int} {g0 g1 : Nat} {cp0 cp1 : Option Nat} {ow0 ow1 : Bool} : (R50 s m g0 g1 cp0 cp1 ow0 ow1).tab = [some ⟨.ints .u8 s, g0, ow0, 5⟩, some ⟨.ints .u8 m, g1, ow1, 5⟩, some ⟨.ints .u8 (stLaw m s 15 4), 0, true, 5⟩] := by kernel_rfl
end Go.Abs
