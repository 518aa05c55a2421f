/- What functions of the given program come to, by the abstract machine: texts of a proof. -/
import Derived.Test.YtkbfjfookfmobaaDoorAbs2
import Derived.Test.YtkbfjfookfmobaaDoorProg
import Derived.KernelRfl
set_option linter.unusedVariables false
namespace Go.Abs
def tysS : List (Nat × Ty) := [
(1, ⟨.func, 1, 8, .nilFunc⟩),
(2, ⟨(.int .i64), 1, 8, (.int .i64 0)⟩),
(3, ⟨(.int .i64), 1, 8, (.int .i64 0)⟩),
(4, ⟨.bool, 1, 1, (.bool false)⟩),
(5, ⟨(.int .u8), 1, 1, (.int .u8 0)⟩),
(6, ⟨(.int .u8), 1, 1, (.int .u8 0)⟩),
(7, ⟨(.struct [(0, 2), (1, 3), (2, 4), (3, 6)]), 4, 24, (.agg [(.int .i64 0), (.int .i64 0), (.bool false), (.int .u8 0)])⟩),
(8, ⟨(.struct [(0, 2), (1, 3), (2, 4), (3, 6)]), 4, 24, (.agg [(.int .i64 0), (.int .i64 0), (.bool false), (.int .u8 0)])⟩),
(9, ⟨.str, 1, 16, (.str [])⟩),
(10, ⟨.str, 1, 16, (.str [])⟩),
(11, ⟨.str, 1, 16, (.str [])⟩),
(12, ⟨(.int .u64), 1, 8, (.int .u64 0)⟩),
(13, ⟨(.struct [(0, 9), (1, 12)]), 2, 24, (.agg [(.str []), (.int .u64 0)])⟩),
(14, ⟨(.struct [(0, 9), (1, 12)]), 2, 24, (.agg [(.str []), (.int .u64 0)])⟩),
(15, ⟨(.ptr 99), 1, 8, .nilPtr⟩),
(16, ⟨(.ptr 102), 1, 8, .nilPtr⟩),
(17, ⟨(.ptr 110), 1, 8, .nilPtr⟩),
(18, ⟨(.struct [(0, 17)]), 1, 8, (.agg [.nilPtr])⟩),
(19, ⟨(.struct [(0, 17)]), 1, 8, (.agg [.nilPtr])⟩),
(20, ⟨.iface, 1, 16, .nilIface⟩),
(21, ⟨(.int .i32), 1, 4, (.int .i32 0)⟩),
(22, ⟨(.slice 5), 1, 24, .nilSlice⟩),
(23, ⟨.func, 1, 8, .nilFunc⟩),
(24, ⟨.func, 1, 8, .nilFunc⟩),
(25, ⟨.func, 1, 8, .nilFunc⟩),
(26, ⟨.func, 1, 8, .nilFunc⟩),
(27, ⟨(.ptr 35), 1, 8, .nilPtr⟩),
(28, ⟨.func, 1, 8, .nilFunc⟩),
(29, ⟨.func, 1, 8, .nilFunc⟩),
(30, ⟨.func, 1, 8, .nilFunc⟩),
(31, ⟨(.int .i64), 1, 8, (.int .i64 0)⟩),
(32, ⟨.func, 1, 8, .nilFunc⟩),
(33, ⟨.func, 1, 8, .nilFunc⟩),
(34, ⟨(.struct [(0, 3), (1, 22)]), 2, 32, (.agg [(.int .i64 0), .nilSlice])⟩),
(35, ⟨(.struct [(0, 3), (1, 22)]), 2, 32, (.agg [(.int .i64 0), .nilSlice])⟩),
(36, ⟨.func, 1, 8, .nilFunc⟩),
(37, ⟨(.slice 22), 1, 24, .nilSlice⟩),
(38, ⟨.func, 1, 8, .nilFunc⟩),
(39, ⟨.func, 1, 8, .nilFunc⟩),
(41, ⟨.func, 1, 8, .nilFunc⟩),
(43, ⟨.func, 1, 8, .nilFunc⟩),
(44, ⟨.func, 1, 8, .nilFunc⟩),
(45, ⟨.func, 1, 8, .nilFunc⟩),
(46, ⟨.func, 1, 8, .nilFunc⟩),
(47, ⟨(.int .u32), 1, 4, (.int .u32 0)⟩),
(48, ⟨(.array 3 3), 3, 24, (.ints .i64 [0, 0, 0])⟩),
(49, ⟨(.struct [(0, 3), (1, 3), (2, 48), (5, 48), (8, 48), (11, 48)]), 14, 112, (.ints .i64 [0, 0, 0, 0, 0, 0, 0, 0, 0, 0, 0, 0, 0, 0])⟩),
(50, ⟨(.struct [(0, 3), (1, 3), (2, 48), (5, 48), (8, 48), (11, 48)]), 14, 112, (.ints .i64 [0, 0, 0, 0, 0, 0, 0, 0, 0, 0, 0, 0, 0, 0])⟩),
(51, ⟨.func, 1, 8, .nilFunc⟩),
(52, ⟨(.slice 3), 1, 24, .nilSlice⟩),
(53, ⟨(.struct [(0, 3), (1, 3), (2, 3), (3, 52), (4, 52), (5, 52), (6, 52)]), 7, 120, (.agg [(.int .i64 0), (.int .i64 0), (.int .i64 0), .nilSlice, .nilSlice, .nilSlice, .nilSlice])⟩),
(54, ⟨(.struct [(0, 3), (1, 3), (2, 3), (3, 52), (4, 52), (5, 52), (6, 52)]), 7, 120, (.agg [(.int .i64 0), (.int .i64 0), (.int .i64 0), .nilSlice, .nilSlice, .nilSlice, .nilSlice])⟩),
(55, ⟨.func, 1, 8, .nilFunc⟩),
(56, ⟨(.int .u64), 1, 8, (.int .u64 0)⟩),
(57, ⟨.func, 1, 8, .nilFunc⟩),
(58, ⟨.func, 1, 8, .nilFunc⟩),
(59, ⟨.func, 1, 8, .nilFunc⟩),
(60, ⟨.func, 1, 8, .nilFunc⟩),
(61, ⟨.func, 1, 8, .nilFunc⟩),
(62, ⟨(.array 8 47), 8, 32, (.ints .u32 [0, 0, 0, 0, 0, 0, 0, 0])⟩),
(63, ⟨(.struct [(0, 50), (14, 62)]), 22, 144, (.agg [(.int .i64 0), (.int .i64 0), (.int .i64 0), (.int .i64 0), (.int .i64 0), (.int .i64 0), (.int .i64 0), (.int .i64 0), (.int .i64 0), (.int .i64 0), (.int .i64 0), (.int .i64 0), (.int .i64 0), (.int .i64 0), (.int .u32 0), (.int .u32 0), (.int .u32 0), (.int .u32 0), (.int .u32 0), (.int .u32 0), (.int .u32 0), (.int .u32 0)])⟩),
(64, ⟨(.struct [(0, 50), (14, 62)]), 22, 144, (.agg [(.int .i64 0), (.int .i64 0), (.int .i64 0), (.int .i64 0), (.int .i64 0), (.int .i64 0), (.int .i64 0), (.int .i64 0), (.int .i64 0), (.int .i64 0), (.int .i64 0), (.int .i64 0), (.int .i64 0), (.int .i64 0), (.int .u32 0), (.int .u32 0), (.int .u32 0), (.int .u32 0), (.int .u32 0), (.int .u32 0), (.int .u32 0), (.int .u32 0)])⟩),
(65, ⟨.func, 1, 8, .nilFunc⟩),
(66, ⟨.func, 1, 8, .nilFunc⟩),
(67, ⟨(.slice 56), 1, 24, .nilSlice⟩),
(68, ⟨.func, 1, 8, .nilFunc⟩),
(69, ⟨(.int .u64), 1, 8, (.int .u64 0)⟩),
(70, ⟨.func, 1, 8, .nilFunc⟩),
(71, ⟨(.array 8 56), 8, 64, (.ints .u64 [0, 0, 0, 0, 0, 0, 0, 0])⟩),
(72, ⟨(.struct [(0, 50), (14, 71)]), 22, 176, (.agg [(.int .i64 0), (.int .i64 0), (.int .i64 0), (.int .i64 0), (.int .i64 0), (.int .i64 0), (.int .i64 0), (.int .i64 0), (.int .i64 0), (.int .i64 0), (.int .i64 0), (.int .i64 0), (.int .i64 0), (.int .i64 0), (.int .u64 0), (.int .u64 0), (.int .u64 0), (.int .u64 0), (.int .u64 0), (.int .u64 0), (.int .u64 0), (.int .u64 0)])⟩),
(73, ⟨(.struct [(0, 50), (14, 71)]), 22, 176, (.agg [(.int .i64 0), (.int .i64 0), (.int .i64 0), (.int .i64 0), (.int .i64 0), (.int .i64 0), (.int .i64 0), (.int .i64 0), (.int .i64 0), (.int .i64 0), (.int .i64 0), (.int .i64 0), (.int .i64 0), (.int .i64 0), (.int .u64 0), (.int .u64 0), (.int .u64 0), (.int .u64 0), (.int .u64 0), (.int .u64 0), (.int .u64 0), (.int .u64 0)])⟩),
(74, ⟨.func, 1, 8, .nilFunc⟩),
(75, ⟨.func, 1, 8, .nilFunc⟩),
(76, ⟨(.ptr 64), 1, 8, .nilPtr⟩),
(77, ⟨(.array 80 47), 80, 320, (.ints .u32 [0, 0, 0, 0, 0, 0, 0, 0, 0, 0, 0, 0, 0, 0, 0, 0, 0, 0, 0, 0, 0, 0, 0, 0, 0, 0, 0, 0, 0, 0, 0, 0, 0, 0, 0, 0, 0, 0, 0, 0, 0, 0, 0, 0, 0, 0, 0, 0, 0, 0, 0, 0, 0, 0, 0, 0, 0, 0, 0, 0, 0, 0, 0, 0, 0, 0, 0, 0, 0, 0, 0, 0, 0, 0, 0, 0, 0, 0, 0, 0])⟩),
(78, ⟨.func, 1, 8, .nilFunc⟩),
(79, ⟨(.array 80 56), 80, 640, (.ints .u64 [0, 0, 0, 0, 0, 0, 0, 0, 0, 0, 0, 0, 0, 0, 0, 0, 0, 0, 0, 0, 0, 0, 0, 0, 0, 0, 0, 0, 0, 0, 0, 0, 0, 0, 0, 0, 0, 0, 0, 0, 0, 0, 0, 0, 0, 0, 0, 0, 0, 0, 0, 0, 0, 0, 0, 0, 0, 0, 0, 0, 0, 0, 0, 0, 0, 0, 0, 0, 0, 0, 0, 0, 0, 0, 0, 0, 0, 0, 0, 0])⟩),
(80, ⟨(.slice 47), 1, 24, .nilSlice⟩),
(81, ⟨.func, 1, 8, .nilFunc⟩),
(82, ⟨.func, 1, 8, .nilFunc⟩),
(83, ⟨.func, 1, 8, .nilFunc⟩),
(84, ⟨(.ptr 73), 1, 8, .nilPtr⟩),
(85, ⟨.func, 1, 8, .nilFunc⟩),
(86, ⟨.func, 1, 8, .nilFunc⟩),
(87, ⟨.func, 1, 8, .nilFunc⟩),
(88, ⟨.func, 1, 8, .nilFunc⟩),
(89, ⟨.func, 1, 8, .nilFunc⟩),
(91, ⟨.func, 1, 8, .nilFunc⟩),
(92, ⟨.func, 1, 8, .nilFunc⟩),
(94, ⟨.func, 1, 8, .nilFunc⟩),
(96, ⟨.func, 1, 8, .nilFunc⟩),
(97, ⟨.func, 1, 8, .nilFunc⟩),
(98, ⟨(.struct [(0, 17), (1, 17), (2, 17), (3, 9)]), 4, 40, (.agg [.nilPtr, .nilPtr, .nilPtr, (.str [])])⟩),
(99, ⟨(.struct [(0, 17), (1, 17), (2, 17), (3, 9)]), 4, 40, (.agg [.nilPtr, .nilPtr, .nilPtr, (.str [])])⟩),
(100, ⟨(.array 0 16), 0, 0, (.agg [])⟩),
(101, ⟨(.struct [(0, 100)]), 0, 0, (.agg [])⟩),
(102, ⟨(.struct [(0, 100)]), 0, 0, (.agg [])⟩),
(103, ⟨(.int .u8), 1, 1, (.int .u8 0)⟩),
(104, ⟨(.int .u8), 1, 1, (.int .u8 0)⟩),
(105, ⟨.func, 1, 8, .nilFunc⟩),
(106, ⟨(.ptr 5), 1, 8, .nilPtr⟩),
(107, ⟨(.int .i32), 1, 4, (.int .i32 0)⟩),
(108, ⟨(.int .i32), 1, 4, (.int .i32 0)⟩),
(109, ⟨(.struct [(0, 12), (1, 12), (2, 47), (3, 103), (4, 5), (5, 5), (6, 104), (7, 105), (8, 106), (9, 107), (10, 108)]), 11, 48, (.agg [(.int .u64 0), (.int .u64 0), (.int .u32 0), (.int .u8 0), (.int .u8 0), (.int .u8 0), (.int .u8 0), .nilFunc, .nilPtr, (.int .i32 0), (.int .i32 0)])⟩),
(110, ⟨(.struct [(0, 12), (1, 12), (2, 47), (3, 103), (4, 5), (5, 5), (6, 104), (7, 105), (8, 106), (9, 107), (10, 108)]), 11, 48, (.agg [(.int .u64 0), (.int .u64 0), (.int .u32 0), (.int .u8 0), (.int .u8 0), (.int .u8 0), (.int .u8 0), .nilFunc, .nilPtr, (.int .i32 0), (.int .i32 0)])⟩),
(111, ⟨.other, 1, 8, .nilPtr⟩)]
theorem tysS_ok : TysOk Go.Proofs.Tryd.prog tysS := by
  refine ⟨?_, ?_, ?_, ?_, ?_, ?_, ?_, ?_, ?_, ?_, ?_, ?_, ?_, ?_, ?_, ?_, ?_, ?_, ?_, ?_, ?_, ?_, ?_, ?_, ?_, ?_, ?_, ?_, ?_, ?_, ?_, ?_, ?_, ?_, ?_, ?_, ?_, ?_, ?_, ?_, ?_, ?_, ?_, ?_, ?_, ?_, ?_, ?_, ?_, ?_, ?_, ?_, ?_, ?_, ?_, ?_, ?_, ?_, ?_, ?_, ?_, ?_, ?_, ?_, ?_, ?_, ?_, ?_, ?_, ?_, ?_, ?_, ?_, ?_, ?_, ?_, ?_, ?_, ?_, ?_, ?_, ?_, ?_, ?_, ?_, ?_, ?_, ?_, ?_, ?_, ?_, ?_, ?_, ?_, ?_, ?_, ?_, ?_, ?_, ?_, ?_, ?_, ?_, ?_, ?_, ?_, trivial⟩ <;> kernel_rfl
def squaresLaw : List Int := [7640891576956012808, 13503953896175478587, 4354685564936845355, 11912009170470909681, 5840696475078001361, 11170449401992604703, 2270897969802886507, 6620516959819538809]
def cubesLaw : List Int := [4794697086780616226, 8158064640168781261, 13096744586834688815, 16840607885511220156, 4131703408338449720, 6480981068601479193, 10538285296894168987, 12329834152419229976, 15566598209576043074, 1334009975649890238, 2608012711638119052, 6128411473006802146, 8268148722764581231, 9286055187155687089, 11230858885718282805, 13951009754708518548, 16472876342353939154, 17275323862435702243, 1135362057144423861, 2597628984639134821, 3308224258029322869, 5365058923640841347, 6679025012923562964, 8573033837759648693, 10970295158949994411, 12119686244451234320, 12683024718118986047, 13788192230050041572, 14330467153632333762, 15395433587784984357, 489312712824947311, 1452737877330783856, 2861767655752347644, 3322285676063803686, 5560940570517711597, 5996557281743188959, 7280758554555802590, 8532644243296465576, 9350256976987008742, 10552545826968843579, 11727347734174303076, 12113106623233404929, 14000437183269869457, 14369950271660146224, 15101387698204529176, 15463397548674623760, 17586052441742319658, 1182934255886127544, 1847814050463011016, 2177327727835720531, 2830643537854262169, 3796741975233480872, 4115178125766777443, 5681478168544905931, 6601373596472566643, 7507060721942968483, 8399075790359081724, 8693463985226723168, 9568029438360202098, 10144078919501101548, 10430055236837252648, 11840083180663258601, 13761210420658862357, 14299343276471374635, 14566680578165727644, 15097957966210449927, 16922976911328602910, 17689382322260857208, 500013540394364858, 748580250866718886, 1242879168328830382, 1977374033974150939, 2944078676154940804, 3659926193048069267, 4368137639120453308, 4836135668995329356, 5532061633213252278, 6448918945643986474, 6902733635092675308, 7801388544844847127]
def glS : Nat → Option AVal
  | 0 => some (.ints .u64 squaresLaw)
  | 1 => some (.ints .u64 cubesLaw)
  | _ => none
noncomputable def eS0 (fns : List (Nat × Summary)) : Env := envOf Go.Proofs.Tryd.prog tysS fns glS
theorem hmS : Go.Proofs.Tryd.prog.follows .mixedOrders = true := by kernel_rfl
theorem eS0_ok : EnvOk (eS0 []) := envOf_ok tysS_ok trivial
end Go.Abs

set_option linter.unusedVariables false
set_option linter.unusedSimpArgs false
set_option maxRecDepth 8000
namespace Go.Abs
open Go.Proofs Go.Proofs.Tryd
/-! ### words -/
def rotrLaw (W : Nat) (x : Int) (n : Nat) : Int := ior (x / 2 ^ n) (x * 2 ^ (W - n) % 2 ^ W)
def lowLaw (W : Nat) (l : List Int) (x : Int) : Int := ixor (ixor (rotrLaw W x (l.getD 0 0).toNat) (rotrLaw W x (l.getD 1 0).toNat)) (x / 2 ^ (l.getD 2 0).toNat)
def highLaw (W : Nat) (l : List Int) (x : Int) : Int := ixor (ixor (rotrLaw W x (l.getD 0 0).toNat) (rotrLaw W x (l.getD 1 0).toNat)) (rotrLaw W x (l.getD 2 0).toNat)
theorem pow_nat (n : Nat) : (2 : Int) ^ n = ((2 ^ n : Nat) : Int) := by simp
def Wd (W : Nat) (x : Int) : Prop := 0 ≤ x ∧ x < 2 ^ W
theorem wd_iff {W : Nat} {x : Int} : Wd W x ↔ 0 ≤ x ∧ x.toNat < 2 ^ W := by
  unfold Wd; rw [pow_nat]; constructor <;> intro h <;> omega
theorem Wd.ixor {W : Nat} {x y : Int} (hx : Wd W x) (hy : Wd W y) : Wd W (ixor x y) := by
  rw [wd_iff] at *
  refine ⟨by unfold Abs.ixor; omega, ?_⟩
  simp only [Abs.ixor, Int.toNat_natCast]
  exact Nat.xor_lt_two_pow hx.2 hy.2
theorem Wd.ior {W : Nat} {x y : Int} (hx : Wd W x) (hy : Wd W y) : Wd W (ior x y) := by
  rw [wd_iff] at *
  refine ⟨by unfold Abs.ior; omega, ?_⟩
  simp only [Abs.ior, Int.toNat_natCast]
  exact Nat.or_lt_two_pow hx.2 hy.2
theorem Wd.iand {W : Nat} {x y : Int} (hx : Wd W x) : Wd W (iand x y) := by
  rw [wd_iff] at *
  refine ⟨by unfold Abs.iand; omega, ?_⟩
  simp only [Abs.iand, Int.toNat_natCast]
  exact Nat.lt_of_le_of_lt Nat.and_le_left hx.2
theorem Wd.mod (W : Nat) (x : Int) : Wd W (x % 2 ^ W) := by
  have : (0 : Int) < 2 ^ W := by rw [pow_nat]; exact_mod_cast Nat.two_pow_pos W
  exact ⟨Int.emod_nonneg _ (by omega), Int.emod_lt_of_pos _ this⟩
theorem Wd.div {W : Nat} {x : Int} (hx : Wd W x) (n : Nat) : Wd W (x / 2 ^ n) := by
  have h : (0 : Int) < 2 ^ n := by rw [pow_nat]; exact_mod_cast Nat.two_pow_pos n
  exact ⟨Int.ediv_nonneg hx.1 (by omega), Int.lt_of_le_of_lt (Int.ediv_le_self _ hx.1) hx.2⟩
theorem Wd.divk {W : Nat} {x : Int} (hx : Wd W x) {d : Int} (h : 0 < d) : Wd W (x / d) := ⟨Int.ediv_nonneg hx.1 (by omega), Int.lt_of_le_of_lt (Int.ediv_le_self _ hx.1) hx.2⟩
theorem nn_32 {x : Int} : nonneg .u32 x ↔ Wd 32 x := Iff.rfl
theorem nn_64 {x : Int} : nonneg .u64 x ↔ Wd 64 x := Iff.rfl
noncomputable def S62 : Summary := sumI modeO (eS0 []) f62 [] 100 [] []
theorem S62_ok : SumOk prog glS 62 S62 := sumI_ok eS0_ok hmS (fn := f62) (by kernel_rfl) (by kernel_rfl) [] FnOrc.nil 100 [] []
noncomputable def eU32 : Env := eS0 [(62, S62)]
theorem eU32_ok : EnvOk eU32 := envOf_ok tysS_ok (SumsOk.cons (fn := f62) S62_ok (by kernel_rfl) (by kernel_rfl) (by kernel_rfl) trivial)
def low32Law (l : List Int) : Prop := l = [7, 18, 3] ∨ l = [17, 19, 10]
theorem low32_a : low32Law [7, 18, 3] := .inl rfl
theorem low32_b : low32Law [17, 19, 10] := .inr rfl
noncomputable def R54a (x x0 x1 x2 x3 x4 x5 x6 x7 : Int) (g : Nat) (ow : Bool) : Res := runF eU32 f54 [] 400 [.var 0 g, .int .u32 x, .agg [.int .i64 7, .int .i64 18, .int .i64 3]] [some ⟨.agg [.int .i64 32, .int .i64 64, .int .i64 7, .int .i64 18, .int .i64 3, .int .i64 17, .int .i64 19, .int .i64 10, .int .i64 2, .int .i64 13, .int .i64 22, .int .i64 6, .int .i64 11, .int .i64 25, .int .u32 x0, .int .u32 x1, .int .u32 x2, .int .u32 x3, .int .u32 x4, .int .u32 x5, .int .u32 x6, .int .u32 x7], g, ow, 64⟩] []
theorem R54a_ok {x x0 x1 x2 x3 x4 x5 x6 x7 : Int} {g : Nat} {ow : Bool} (h : allP [.eqN g g, .eqN g g, .eqN g g, .eqN g g, .nn .u32 (x / 128), .nn .u32 (x * 33554432 % 4294967296), .eqN g g, .eqN g g, .eqN g g, .eqN g g, .eqN g g, .eqN g g, .eqN g g, .eqN g g, .nn .u32 (x / 262144), .nn .u32 (x * 16384 % 4294967296), .nn .u32 (ior (x / 128) (x * 33554432 % 4294967296)), .nn .u32 (ior (x / 262144)
 (x * 16384 % 4294967296)), .nn .u32 (ixor (ior (x / 128) (x * 33554432 % 4294967296)) (ior (x / 262144) (x * 16384 % 4294967296))), .nn .u32 (x / 8)]) : OkR (R54a x x0 x1 x2 x3 x4 x5 x6 x7 g ow) := OkR.dem (fl := bitsF 83 864036125932484157797438) (by kernel_rfl) (by kernel_rfl) (by kernel_rfl) h
theorem R54a_val {x x0 x1 x2 x3 x4 x5 x6 x7 : Int} {g : Nat} {ow : Bool} : (R54a x x0 x1 x2 x3 x4 x5 x6 x7 g ow).val = .int .u32 (ixor (ixor (ior (x / 128) (x * 33554432 % 4294967296)) (ior (x / 262144) (x * 16384 % 4294967296))) (x / 8)) := by kernel_rfl
theorem R54a_tab {x x0 x1 x2 x3 x4 x5 x6 x7 : Int} {g : Nat} {ow : Bool} : (R54a x x0 x1 x2 x3 x4 x5 x6 x7 g ow).tab = [some ⟨.agg [.int .i64 32, .int .i64 64, .int .i64 7, .int .i64 18, .int .i64 3, .int .i64 17, .int .i64 19, .int .i64 10, .int .i64 2, .int .i64 13, .int .i64 22, .int .i64 6, .int .i64 11, .int .i64 25, .int .u32 x0, .int .u32 x1, .int .u32 x2, .int .u32 x3, .int .u32 x4, .int
 .u32 x5, .int .u32 x6, .int .u32 x7], g, ow, 64⟩, some ⟨.agg [.int .i64 7, .int .i64 18, .int .i64 3], 0, true, 48⟩] := by kernel_rfl
noncomputable def R54b (x x0 x1 x2 x3 x4 x5 x6 x7 : Int) (g : Nat) (ow : Bool) : Res := runF eU32 f54 [] 400 [.var 0 g, .int .u32 x, .agg [.int .i64 17, .int .i64 19, .int .i64 10]] [some ⟨.agg [.int .i64 32, .int .i64 64, .int .i64 7, .int .i64 18, .int .i64 3, .int .i64 17, .int .i64 19, .int .i64 10, .int .i64 2, .int .i64 13, .int .i64 22, .int .i64 6, .int .i64 11, .int .i64 25, .int .u32 x0, .int .u32 x1, .int .u32 x2, .int .u32 x3, .int .u32 x4, .int .u32 x5, .int .u32 x6, .int .u32 x7], g, ow, 64⟩] []
theorem R54b_ok {x x0 x1 x2 x3 x4 x5 x6 x7 : Int} {g : Nat} {ow : Bool} (h : allP [.eqN g g, .eqN g g, .eqN g g, .eqN g g, .nn .u32 (x / 131072), .nn .u32 (x * 32768 % 4294967296), .eqN g g, .eqN g g, .eqN g g, .eqN g g, .eqN g g, .eqN g g, .eqN g g, .eqN g g, .nn .u32 (x / 524288), .nn .u32 (x * 8192 % 4294967296), .nn .u32 (ior (x / 131072) (x * 32768 % 4294967296)), .nn .u32 (ior (x / 524288) (x
 * 8192 % 4294967296)), .nn .u32 (ixor (ior (x / 131072) (x * 32768 % 4294967296)) (ior (x / 524288) (x * 8192 % 4294967296))), .nn .u32 (x / 1024)]) : OkR (R54b x x0 x1 x2 x3 x4 x5 x6 x7 g ow) := OkR.dem (fl := bitsF 83 864036125932484157797438) (by kernel_rfl) (by kernel_rfl) (by kernel_rfl) h
theorem R54b_val {x x0 x1 x2 x3 x4 x5 x6 x7 : Int} {g : Nat} {ow : Bool} : (R54b x x0 x1 x2 x3 x4 x5 x6 x7 g ow).val = .int .u32 (ixor (ixor (ior (x / 131072) (x * 32768 % 4294967296)) (ior (x / 524288) (x * 8192 % 4294967296))) (x / 1024)) := by kernel_rfl
theorem R54b_tab {x x0 x1 x2 x3 x4 x5 x6 x7 : Int} {g : Nat} {ow : Bool} : (R54b x x0 x1 x2 x3 x4 x5 x6 x7 g ow).tab = [some ⟨.agg [.int .i64 32, .int .i64 64, .int .i64 7, .int .i64 18, .int .i64 3, .int .i64 17, .int .i64 19, .int .i64 10, .int .i64 2, .int .i64 13, .int .i64 22, .int .i64 6, .int .i64 11, .int .i64 25, .int .u32 x0, .int .u32 x1, .int .u32 x2, .int .u32 x3, .int .u32 x4, .int
 .u32 x5, .int .u32 x6, .int .u32 x7], g, ow, 64⟩, some ⟨.agg [.int .i64 17, .int .i64 19, .int .i64 10], 0, true, 48⟩] := by kernel_rfl
def sm54 : Summary := fun args T => match args, T with
  | [.var 0 g, .int .u32 x, .agg [.int .i64 l0, .int .i64 l1, .int .i64 l2]], [some ⟨.agg [.int .i64 32, .int .i64 64, .int .i64 7, .int .i64 18, .int .i64 3, .int .i64 17, .int .i64 19, .int .i64 10, .int .i64 2, .int .i64 13, .int .i64 22, .int .i64 6, .int .i64 11, .int .i64 25, .int .u32 x0, .int .u32 x1, .int .u32 x2, .int .u32 x3, .int .u32 x4, .int .u32 x5, .int .u32 x6, .int .u32 x7], g', ow, 64⟩] => ⟨[.eqN g g', .p (Wd 32 x), .p (low32Law [l0, l1, l2])], .int .u32 (lowLaw 32 [l0, l1, l2] x), [some ⟨.agg [.int .i64 32, .int .i64 64, .int .i64 7, .int .i64 18, .int .i64 3, .int .i64 17, .int .i64 19, .int .i64 10, .int .i64 2, .int .i64 13, .int .i64 22, .int .i64 6, .int .i64 11, .int .i64 25, .int .u32 x0, .int .u32 x1, .int .u32 x2, .int .u32 x3, .int .u32 x4, .int .u32 x5, .int .u32 x6, .int .u32 x7], g', ow, 64⟩]⟩
  | _, _ => fail
theorem sm54_ok : SmOk prog glS 54 sm54 := by
  intro args T hc
  unfold sm54 at hc ⊢
  split at hc
  · rename_i g x l0 l1 l2 x0 x1 x2 x3 x4 x5 x6 x7 g' ow
    obtain ⟨h1, h2, h3, _⟩ := hc
    simp only [Con.h] at h1 h2 h3
    subst h1
    have hd : ∀ d : Int, 0 < d → Wd 32 (x / d) := fun d h => h2.divk h
    have hm : ∀ y : Int, Wd 32 (y % 2 ^ 32) := fun y => Wd.mod 32 y
    rcases h3 with h3 | h3 <;> (injection h3 with e0 h3; injection h3 with e1 h3; injection h3 with e2 h3; subst e0 e1 e2)
    · refine small_drop (small_of (R := R54a x x0 x1 x2 x3 x4 x5 x6 x7 g ow) eU32_ok hmS (f := 54) (fn := f54) (by kernel_rfl) (by kernel_rfl) FnOrc.nil rfl (R54a_ok ?_) R54a_val R54a_tab)
      simp only [allP, Con.h, nn_32, eq_self, true_and, and_true]
      repeat' with_reducible apply And.intro
      all_goals repeat' (first | exact hd _ (by decide) | exact hm _ | apply Wd.ixor | apply Wd.ior)
    · refine small_drop (small_of (R := R54b x x0 x1 x2 x3 x4 x5 x6 x7 g ow) eU32_ok hmS (f := 54) (fn := f54) (by kernel_rfl) (by kernel_rfl) FnOrc.nil rfl (R54b_ok ?_) R54b_val R54b_tab)
      simp only [allP, Con.h, nn_32, eq_self, true_and, and_true]
      repeat' with_reducible apply And.intro
      all_goals repeat' (first | exact hd _ (by decide) | exact hm _ | apply Wd.ixor | apply Wd.ior)
  · exact absurd hc nofail
def S54 : Summary := callR sm54 []
theorem S54_ok : SumOk prog glS 54 S54 := callR_ok sm54_ok []
def high32Law (l : List Int) : Prop := l = [2, 13, 22] ∨ l = [6, 11, 25]
theorem high32_a : high32Law [2, 13, 22] := .inl rfl
theorem high32_b : high32Law [6, 11, 25] := .inr rfl
noncomputable def R55a (x x0 x1 x2 x3 x4 x5 x6 x7 : Int) (g : Nat) (ow : Bool) : Res := runF eU32 f55 [] 400 [.var 0 g, .int .u32 x, .agg [.int .i64 2, .int .i64 13, .int .i64 22]] [some ⟨.agg [.int .i64 32, .int .i64 64, .int .i64 7, .int .i64 18, .int .i64 3, .int .i64 17, .int .i64 19, .int .i64 10, .int .i64 2, .int .i64 13, .int .i64 22, .int .i64 6, .int .i64 11, .int .i64 25, .int .u32 x0, .int .u32 x1, .int .u32 x2, .int .u32 x3, .int .u32 x4, .int .u32 x5, .int .u32 x6, .int .u32 x7], g, ow, 64⟩] []
theorem R55a_ok {x x0 x1 x2 x3 x4 x5 x6 x7 : Int} {g : Nat} {ow : Bool} (h : allP [.eqN g g, .eqN g g, .eqN g g, .eqN g g, .nn .u32 (x / 4), .nn .u32 (x * 1073741824 % 4294967296), .eqN g g, .eqN g g, .eqN g g, .eqN g g, .eqN g g, .eqN g g, .eqN g g, .eqN g g, .nn .u32 (x / 8192), .nn .u32 (x * 524288 % 4294967296), .nn .u32 (ior (x / 4) (x * 1073741824 % 4294967296)), .nn .u32 (ior (x / 8192) (x *
 524288 % 4294967296)), .nn .u32 (ior (x / 4) (x * 1073741824 % 4294967296)), .nn .u32 (ior (x / 8192) (x * 524288 % 4294967296)), .eqN g g, .eqN g g, .eqN g g, .eqN g g, .eqN g g, .eqN g g, .eqN g g, .eqN g g, .eqN g g, .eqN g g, .eqN g g, .eqN g g, .nn .u32 (x / 4194304), .nn .u32 (x * 1024 % 4294967296), .nn .u32 (ixor (ior (x / 4) (x * 1073741824 % 4294967296)) (ior (x / 8192) (x * 524288 %
 4294967296))), .nn .u32 (ior (x / 4194304) (x * 1024 % 4294967296))]) : OkR (R55a x x0 x1 x2 x3 x4 x5 x6 x7 g ow) := OkR.dem (fl := bitsF 113 289816618740375939446520736674878) (by kernel_rfl) (by kernel_rfl) (by kernel_rfl) h
theorem R55a_val {x x0 x1 x2 x3 x4 x5 x6 x7 : Int} {g : Nat} {ow : Bool} : (R55a x x0 x1 x2 x3 x4 x5 x6 x7 g ow).val = .int .u32 (ixor (ixor (ior (x / 4) (x * 1073741824 % 4294967296)) (ior (x / 8192) (x * 524288 % 4294967296))) (ior (x / 4194304) (x * 1024 % 4294967296))) := by kernel_rfl
theorem R55a_tab {x x0 x1 x2 x3 x4 x5 x6 x7 : Int} {g : Nat} {ow : Bool} : (R55a x x0 x1 x2 x3 x4 x5 x6 x7 g ow).tab = [some ⟨.agg [.int .i64 32, .int .i64 64, .int .i64 7, .int .i64 18, .int .i64 3, .int .i64 17, .int .i64 19, .int .i64 10, .int .i64 2, .int .i64 13, .int .i64 22, .int .i64 6, .int .i64 11, .int .i64 25, .int .u32 x0, .int .u32 x1, .int .u32 x2, .int .u32 x3, .int .u32 x4, .int
 .u32 x5, .int .u32 x6, .int .u32 x7], g, ow, 64⟩, some ⟨.agg [.int .i64 2, .int .i64 13, .int .i64 22], 0, true, 48⟩] := by kernel_rfl
noncomputable def R55b (x x0 x1 x2 x3 x4 x5 x6 x7 : Int) (g : Nat) (ow : Bool) : Res := runF eU32 f55 [] 400 [.var 0 g, .int .u32 x, .agg [.int .i64 6, .int .i64 11, .int .i64 25]] [some ⟨.agg [.int .i64 32, .int .i64 64, .int .i64 7, .int .i64 18, .int .i64 3, .int .i64 17, .int .i64 19, .int .i64 10, .int .i64 2, .int .i64 13, .int .i64 22, .int .i64 6, .int .i64 11, .int .i64 25, .int .u32 x0, .int .u32 x1, .int .u32 x2, .int .u32 x3, .int .u32 x4, .int .u32 x5, .int .u32 x6, .int .u32 x7], g, ow, 64⟩] []
theorem R55b_ok {x x0 x1 x2 x3 x4 x5 x6 x7 : Int} {g : Nat} {ow : Bool} (h : allP [.eqN g g, .eqN g g, .eqN g g, .eqN g g, .nn .u32 (x / 64), .nn .u32 (x * 67108864 % 4294967296), .eqN g g, .eqN g g, .eqN g g, .eqN g g, .eqN g g, .eqN g g, .eqN g g, .eqN g g, .nn .u32 (x / 2048), .nn .u32 (x * 2097152 % 4294967296), .nn .u32 (ior (x / 64) (x * 67108864 % 4294967296)), .nn .u32 (ior (x / 2048) (x *
 2097152 % 4294967296)), .nn .u32 (ior (x / 64) (x * 67108864 % 4294967296)), .nn .u32 (ior (x / 2048) (x * 2097152 % 4294967296)), .eqN g g, .eqN g g, .eqN g g, .eqN g g, .eqN g g, .eqN g g, .eqN g g, .eqN g g, .eqN g g, .eqN g g, .eqN g g, .eqN g g, .nn .u32 (x / 33554432), .nn .u32 (x * 128 % 4294967296), .nn .u32 (ixor (ior (x / 64) (x * 67108864 % 4294967296)) (ior (x / 2048) (x * 2097152 %
 4294967296))), .nn .u32 (ior (x / 33554432) (x * 128 % 4294967296))]) : OkR (R55b x x0 x1 x2 x3 x4 x5 x6 x7 g ow) := OkR.dem (fl := bitsF 113 289816618740375939446520736674878) (by kernel_rfl) (by kernel_rfl) (by kernel_rfl) h
theorem R55b_val {x x0 x1 x2 x3 x4 x5 x6 x7 : Int} {g : Nat} {ow : Bool} : (R55b x x0 x1 x2 x3 x4 x5 x6 x7 g ow).val = .int .u32 (ixor (ixor (ior (x / 64) (x * 67108864 % 4294967296)) (ior (x / 2048) (x * 2097152 % 4294967296))) (ior (x / 33554432) (x * 128 % 4294967296))) := by kernel_rfl
theorem R55b_tab {x x0 x1 x2 x3 x4 x5 x6 x7 : Int} {g : Nat} {ow : Bool} : (R55b x x0 x1 x2 x3 x4 x5 x6 x7 g ow).tab = [some ⟨.agg [.int .i64 32, .int .i64 64, .int .i64 7, .int .i64 18, .int .i64 3, .int .i64 17, .int .i64 19, .int .i64 10, .int .i64 2, .int .i64 13, .int .i64 22, .int .i64 6, .int .i64 11, .int .i64 25, .int .u32 x0, .int .u32 x1, .int .u32 x2, .int .u32 x3, .int .u32 x4, .int
 .u32 x5, .int .u32 x6, .int .u32 x7], g, ow, 64⟩, some ⟨.agg [.int .i64 6, .int .i64 11, .int .i64 25], 0, true, 48⟩] := by kernel_rfl
def sm55 : Summary := fun args T => match args, T with
  | [.var 0 g, .int .u32 x, .agg [.int .i64 l0, .int .i64 l1, .int .i64 l2]], [some ⟨.agg [.int .i64 32, .int .i64 64, .int .i64 7, .int .i64 18, .int .i64 3, .int .i64 17, .int .i64 19, .int .i64 10, .int .i64 2, .int .i64 13, .int .i64 22, .int .i64 6, .int .i64 11, .int .i64 25, .int .u32 x0, .int .u32 x1, .int .u32 x2, .int .u32 x3, .int .u32 x4, .int .u32 x5, .int .u32 x6, .int .u32 x7], g', ow, 64⟩] => ⟨[.eqN g g', .p (Wd 32 x), .p (high32Law [l0, l1, l2])], .int .u32 (highLaw 32 [l0, l1, l2] x), [some ⟨.agg [.int .i64 32, .int .i64 64, .int .i64 7, .int .i64 18, .int .i64 3, .int .i64 17, .int .i64 19, .int .i64 10, .int .i64 2, .int .i64 13, .int .i64 22, .int .i64 6, .int .i64 11, .int .i64 25, .int .u32 x0, .int .u32 x1, .int .u32 x2, .int .u32 x3, .int .u32 x4, .int .u32 x5, .int .u32 x6, .int .u32 x7], g', ow, 64⟩]⟩
  | _, _ => fail
theorem sm55_ok : SmOk prog glS 55 sm55 := by
  intro args T hc
  unfold sm55 at hc ⊢
  split at hc
  · rename_i g x l0 l1 l2 x0 x1 x2 x3 x4 x5 x6 x7 g' ow
    obtain ⟨h1, h2, h3, _⟩ := hc
    simp only [Con.h] at h1 h2 h3
    subst h1
    have hd : ∀ d : Int, 0 < d → Wd 32 (x / d) := fun d h => h2.divk h
    have hm : ∀ y : Int, Wd 32 (y % 2 ^ 32) := fun y => Wd.mod 32 y
    rcases h3 with h3 | h3 <;> (injection h3 with e0 h3; injection h3 with e1 h3; injection h3 with e2 h3; subst e0 e1 e2)
    · refine small_drop (small_of (R := R55a x x0 x1 x2 x3 x4 x5 x6 x7 g ow) eU32_ok hmS (f := 55) (fn := f55) (by kernel_rfl) (by kernel_rfl) FnOrc.nil rfl (R55a_ok ?_) R55a_val R55a_tab)
      simp only [allP, Con.h, nn_32, eq_self, true_and, and_true]
      repeat' with_reducible apply And.intro
      all_goals repeat' (first | exact hd _ (by decide) | exact hm _ | apply Wd.ixor | apply Wd.ior)
    · refine small_drop (small_of (R := R55b x x0 x1 x2 x3 x4 x5 x6 x7 g ow) eU32_ok hmS (f := 55) (fn := f55) (by kernel_rfl) (by kernel_rfl) FnOrc.nil rfl (R55b_ok ?_) R55b_val R55b_tab)
      simp only [allP, Con.h, nn_32, eq_self, true_and, and_true]
      repeat' with_reducible apply And.intro
      all_goals repeat' (first | exact hd _ (by decide) | exact hm _ | apply Wd.ixor | apply Wd.ior)
  · exact absurd hc nofail
def S55 : Summary := callR sm55 []
theorem S55_ok : SumOk prog glS 55 S55 := callR_ok sm55_ok []
noncomputable def S65 : Summary := sumI modeO (eS0 []) f65 [] 100 [] []
theorem S65_ok : SumOk prog glS 65 S65 := sumI_ok eS0_ok hmS (fn := f65) (by kernel_rfl) (by kernel_rfl) [] FnOrc.nil 100 [] []
noncomputable def eU64 : Env := eS0 [(65, S65)]
theorem eU64_ok : EnvOk eU64 := envOf_ok tysS_ok (SumsOk.cons (fn := f65) S65_ok (by kernel_rfl) (by kernel_rfl) (by kernel_rfl) trivial)
def low64Law (l : List Int) : Prop := l = [1, 8, 7] ∨ l = [19, 61, 6]
theorem low64_a : low64Law [1, 8, 7] := .inl rfl
theorem low64_b : low64Law [19, 61, 6] := .inr rfl
noncomputable def R59a (x x0 x1 x2 x3 x4 x5 x6 x7 : Int) (g : Nat) (ow : Bool) : Res := runF eU64 f59 [] 400 [.var 0 g, .int .u64 x, .agg [.int .i64 1, .int .i64 8, .int .i64 7]] [some ⟨.agg [.int .i64 64, .int .i64 80, .int .i64 1, .int .i64 8, .int .i64 7, .int .i64 19, .int .i64 61, .int .i64 6, .int .i64 28, .int .i64 34, .int .i64 39, .int .i64 14, .int .i64 18, .int .i64 41, .int .u64 x0, .int .u64 x1, .int .u64 x2, .int .u64 x3, .int .u64 x4, .int .u64 x5, .int .u64 x6, .int .u64 x7], g, ow, 73⟩] []
theorem R59a_ok {x x0 x1 x2 x3 x4 x5 x6 x7 : Int} {g : Nat} {ow : Bool} (h : allP [.eqN g g, .eqN g g, .eqN g g, .eqN g g, .nn .u64 (x / 2), .nn .u64 (x * 9223372036854775808 % 18446744073709551616), .eqN g g, .eqN g g, .eqN g g, .eqN g g, .eqN g g, .eqN g g, .eqN g g, .eqN g g, .nn .u64 (x / 256), .nn .u64 (x * 72057594037927936 % 18446744073709551616), .nn .u64 (ior (x / 2) (x *
 9223372036854775808 % 18446744073709551616)), .nn .u64 (ior (x / 256) (x * 72057594037927936 % 18446744073709551616)), .nn .u64 (ixor (ior (x / 2) (x * 9223372036854775808 % 18446744073709551616)) (ior (x / 256) (x * 72057594037927936 % 18446744073709551616))), .nn .u64 (x / 128)]) : OkR (R59a x x0 x1 x2 x3 x4 x5 x6 x7 g ow) := OkR.dem (fl := bitsF 83 864036125932484157797438) (by kernel_rfl) (by
 kernel_rfl) (by kernel_rfl) h
theorem R59a_val {x x0 x1 x2 x3 x4 x5 x6 x7 : Int} {g : Nat} {ow : Bool} : (R59a x x0 x1 x2 x3 x4 x5 x6 x7 g ow).val = .int .u64 (ixor (ixor (ior (x / 2) (x * 9223372036854775808 % 18446744073709551616)) (ior (x / 256) (x * 72057594037927936 % 18446744073709551616))) (x / 128)) := by kernel_rfl
theorem R59a_tab {x x0 x1 x2 x3 x4 x5 x6 x7 : Int} {g : Nat} {ow : Bool} : (R59a x x0 x1 x2 x3 x4 x5 x6 x7 g ow).tab = [some ⟨.agg [.int .i64 64, .int .i64 80, .int .i64 1, .int .i64 8, .int .i64 7, .int .i64 19, .int .i64 61, .int .i64 6, .int .i64 28, .int .i64 34, .int .i64 39, .int .i64 14, .int .i64 18, .int .i64 41, .int .u64 x0, .int .u64 x1, .int .u64 x2, .int .u64 x3, .int .u64 x4, .int
 .u64 x5, .int .u64 x6, .int .u64 x7], g, ow, 73⟩, some ⟨.agg [.int .i64 1, .int .i64 8, .int .i64 7], 0, true, 48⟩] := by kernel_rfl
noncomputable def R59b (x x0 x1 x2 x3 x4 x5 x6 x7 : Int) (g : Nat) (ow : Bool) : Res := runF eU64 f59 [] 400 [.var 0 g, .int .u64 x, .agg [.int .i64 19, .int .i64 61, .int .i64 6]] [some ⟨.agg [.int .i64 64, .int .i64 80, .int .i64 1, .int .i64 8, .int .i64 7, .int .i64 19, .int .i64 61, .int .i64 6, .int .i64 28, .int .i64 34, .int .i64 39, .int .i64 14, .int .i64 18, .int .i64 41, .int .u64 x0, .int .u64 x1, .int .u64 x2, .int .u64 x3, .int .u64 x4, .int .u64 x5, .int .u64 x6, .int .u64 x7], g, ow, 73⟩] []
theorem R59b_ok {x x0 x1 x2 x3 x4 x5 x6 x7 : Int} {g : Nat} {ow : Bool} (h : allP [.eqN g g, .eqN g g, .eqN g g, .eqN g g, .nn .u64 (x / 524288), .nn .u64 (x * 35184372088832 % 18446744073709551616), .eqN g g, .eqN g g, .eqN g g, .eqN g g, .eqN g g, .eqN g g, .eqN g g, .eqN g g, .nn .u64 (x / 2305843009213693952), .nn .u64 (x * 8 % 18446744073709551616), .nn .u64 (ior (x / 524288) (x *
 35184372088832 % 18446744073709551616)), .nn .u64 (ior (x / 2305843009213693952) (x * 8 % 18446744073709551616)), .nn .u64 (ixor (ior (x / 524288) (x * 35184372088832 % 18446744073709551616)) (ior (x / 2305843009213693952) (x * 8 % 18446744073709551616))), .nn .u64 (x / 64)]) : OkR (R59b x x0 x1 x2 x3 x4 x5 x6 x7 g ow) := OkR.dem (fl := bitsF 83 864036125932484157797438) (by kernel_rfl) (by
 kernel_rfl) (by kernel_rfl) h
theorem R59b_val {x x0 x1 x2 x3 x4 x5 x6 x7 : Int} {g : Nat} {ow : Bool} : (R59b x x0 x1 x2 x3 x4 x5 x6 x7 g ow).val = .int .u64 (ixor (ixor (ior (x / 524288) (x * 35184372088832 % 18446744073709551616)) (ior (x / 2305843009213693952) (x * 8 % 18446744073709551616))) (x / 64)) := by kernel_rfl
theorem R59b_tab {x x0 x1 x2 x3 x4 x5 x6 x7 : Int} {g : Nat} {ow : Bool} : (R59b x x0 x1 x2 x3 x4 x5 x6 x7 g ow).tab = [some ⟨.agg [.int .i64 64, .int .i64 80, .int .i64 1, .int .i64 8, .int .i64 7, .int .i64 19, .int .i64 61, .int .i64 6, .int .i64 28, .int .i64 34, .int .i64 39, .int .i64 14, .int .i64 18, .int .i64 41, .int .u64 x0, .int .u64 x1, .int .u64 x2, .int .u64 x3, .int .u64 x4, .int
 .u64 x5, .int .u64 x6, .int .u64 x7], g, ow, 73⟩, some ⟨.agg [.int .i64 19, .int .i64 61, .int .i64 6], 0, true, 48⟩] := by kernel_rfl
def sm59 : Summary := fun args T => match args, T with
  | [.var 0 g, .int .u64 x, .agg [.int .i64 l0, .int .i64 l1, .int .i64 l2]], [some ⟨.agg [.int .i64 64, .int .i64 80, .int .i64 1, .int .i64 8, .int .i64 7, .int .i64 19, .int .i64 61, .int .i64 6, .int .i64 28, .int .i64 34, .int .i64 39, .int .i64 14, .int .i64 18, .int .i64 41, .int .u64 x0, .int .u64 x1, .int .u64 x2, .int .u64 x3, .int .u64 x4, .int .u64 x5, .int .u64 x6, .int .u64 x7], g', ow, 73⟩] => ⟨[.eqN g g', .p (Wd 64 x), .p (low64Law [l0, l1, l2])], .int .u64 (lowLaw 64 [l0, l1, l2] x), [some ⟨.agg [.int .i64 64, .int .i64 80, .int .i64 1, .int .i64 8, .int .i64 7, .int .i64 19, .int .i64 61, .int .i64 6, .int .i64 28, .int .i64 34, .int .i64 39, .int .i64 14, .int .i64 18, .int .i64 41, .int .u64 x0, .int .u64 x1, .int .u64 x2, .int .u64 x3, .int .u64 x4, .int .u64 x5, .int .u64 x6, .int .u64 x7], g', ow, 73⟩]⟩
  | _, _ => fail
theorem sm59_ok : SmOk prog glS 59 sm59 := by
  intro args T hc
  unfold sm59 at hc ⊢
  split at hc
  · rename_i g x l0 l1 l2 x0 x1 x2 x3 x4 x5 x6 x7 g' ow
    obtain ⟨h1, h2, h3, _⟩ := hc
    simp only [Con.h] at h1 h2 h3
    subst h1
    have hd : ∀ d : Int, 0 < d → Wd 64 (x / d) := fun d h => h2.divk h
    have hm : ∀ y : Int, Wd 64 (y % 2 ^ 64) := fun y => Wd.mod 64 y
    rcases h3 with h3 | h3 <;> (injection h3 with e0 h3; injection h3 with e1 h3; injection h3 with e2 h3; subst e0 e1 e2)
    · refine small_drop (small_of (R := R59a x x0 x1 x2 x3 x4 x5 x6 x7 g ow) eU64_ok hmS (f := 59) (fn := f59) (by kernel_rfl) (by kernel_rfl) FnOrc.nil rfl (R59a_ok ?_) R59a_val R59a_tab)
      simp only [allP, Con.h, nn_64, eq_self, true_and, and_true]
      repeat' with_reducible apply And.intro
      all_goals repeat' (first | exact hd _ (by decide) | exact hm _ | apply Wd.ixor | apply Wd.ior)
    · refine small_drop (small_of (R := R59b x x0 x1 x2 x3 x4 x5 x6 x7 g ow) eU64_ok hmS (f := 59) (fn := f59) (by kernel_rfl) (by kernel_rfl) FnOrc.nil rfl (R59b_ok ?_) R59b_val R59b_tab)
      simp only [allP, Con.h, nn_64, eq_self, true_and, and_true]
      repeat' with_reducible apply And.intro
      all_goals repeat' (first | exact hd _ (by decide) | exact hm _ | apply Wd.ixor | apply Wd.ior)
  · exact absurd hc nofail
def S59 : Summary := callR sm59 []
theorem S59_ok : SumOk prog glS 59 S59 := callR_ok sm59_ok []
def high64Law (l : List Int) : Prop := l = [28, 34, 39] ∨ l = [14, 18, 41]
theorem high64_a : high64Law [28, 34, 39] := .inl rfl
theorem high64_b : high64Law [14, 18, 41] := .inr rfl
noncomputable def R60a (x x0 x1 x2 x3 x4 x5 x6 x7 : Int) (g : Nat) (ow : Bool) : Res := runF eU64 f60 [] 400 [.var 0 g, .int .u64 x, .agg [.int .i64 28, .int .i64 34, .int .i64 39]] [some ⟨.agg [.int .i64 64, .int .i64 80, .int .i64 1, .int .i64 8, .int .i64 7, .int .i64 19, .int .i64 61, .int .i64 6, .int .i64 28, .int .i64 34, .int .i64 39, .int .i64 14, .int .i64 18, .int .i64 41, .int .u64 x0, .int .u64 x1, .int .u64 x2, .int .u64 x3, .int .u64 x4, .int .u64 x5, .int .u64 x6, .int .u64 x7], g, ow, 73⟩] []
theorem R60a_ok {x x0 x1 x2 x3 x4 x5 x6 x7 : Int} {g : Nat} {ow : Bool} (h : allP [.eqN g g, .eqN g g, .eqN g g, .eqN g g, .nn .u64 (x / 268435456), .nn .u64 (x * 68719476736 % 18446744073709551616), .eqN g g, .eqN g g, .eqN g g, .eqN g g, .eqN g g, .eqN g g, .eqN g g, .eqN g g, .nn .u64 (x / 17179869184), .nn .u64 (x * 1073741824 % 18446744073709551616), .nn .u64 (ior (x / 268435456) (x *
 68719476736 % 18446744073709551616)), .nn .u64 (ior (x / 17179869184) (x * 1073741824 % 18446744073709551616)), .nn .u64 (ior (x / 268435456) (x * 68719476736 % 18446744073709551616)), .nn .u64 (ior (x / 17179869184) (x * 1073741824 % 18446744073709551616)), .eqN g g, .eqN g g, .eqN g g, .eqN g g, .eqN g g, .eqN g g, .eqN g g, .eqN g g, .eqN g g, .eqN g g, .eqN g g, .eqN g g, .nn .u64 (x /
 549755813888), .nn .u64 (x * 33554432 % 18446744073709551616), .nn .u64 (ixor (ior (x / 268435456) (x * 68719476736 % 18446744073709551616)) (ior (x / 17179869184) (x * 1073741824 % 18446744073709551616))), .nn .u64 (ior (x / 549755813888) (x * 33554432 % 18446744073709551616))]) : OkR (R60a x x0 x1 x2 x3 x4 x5 x6 x7 g ow) := OkR.dem (fl := bitsF 113 289816618740375939446520736674878) (by
 kernel_rfl) (by kernel_rfl) (by kernel_rfl) h
theorem R60a_val {x x0 x1 x2 x3 x4 x5 x6 x7 : Int} {g : Nat} {ow : Bool} : (R60a x x0 x1 x2 x3 x4 x5 x6 x7 g ow).val = .int .u64 (ixor (ixor (ior (x / 268435456) (x * 68719476736 % 18446744073709551616)) (ior (x / 17179869184) (x * 1073741824 % 18446744073709551616))) (ior (x / 549755813888) (x * 33554432 % 18446744073709551616))) := by kernel_rfl
theorem R60a_tab {x x0 x1 x2 x3 x4 x5 x6 x7 : Int} {g : Nat} {ow : Bool} : (R60a x x0 x1 x2 x3 x4 x5 x6 x7 g ow).tab = [some ⟨.agg [.int .i64 64, .int .i64 80, .int .i64 1, .int .i64 8, .int .i64 7, .int .i64 19, .int .i64 61, .int .i64 6, .int .i64 28, .int .i64 34, .int .i64 39, .int .i64 14, .int .i64 18, .int .i64 41, .int .u64 x0, .int .u64 x1, .int .u64 x2, .int .u64 x3, .int .u64 x4, .int
 .u64 x5, .int .u64 x6, .int .u64 x7], g, ow, 73⟩, some ⟨.agg [.int .i64 28, .int .i64 34, .int .i64 39], 0, true, 48⟩] := by kernel_rfl
noncomputable def R60b (x x0 x1 x2 x3 x4 x5 x6 x7 : Int) (g : Nat) (ow : Bool) : Res := runF eU64 f60 [] 400 [.var 0 g, .int .u64 x, .agg [.int .i64 14, .int .i64 18, .int .i64 41]] [some ⟨.agg [.int .i64 64, .int .i64 80, .int .i64 1, .int .i64 8, .int .i64 7, .int .i64 19, .int .i64 61, .int .i64 6, .int .i64 28, .int .i64 34, .int .i64 39, .int .i64 14, .int .i64 18, .int .i64 41, .int .u64 x0, .int .u64 x1, .int .u64 x2, .int .u64 x3, .int .u64 x4, .int .u64 x5, .int .u64 x6, .int .u64 x7], g, ow, 73⟩] []
theorem R60b_ok {x x0 x1 x2 x3 x4 x5 x6 x7 : Int} {g : Nat} {ow : Bool} (h : allP [.eqN g g, .eqN g g, .eqN g g, .eqN g g, .nn .u64 (x / 16384), .nn .u64 (x * 1125899906842624 % 18446744073709551616), .eqN g g, .eqN g g, .eqN g g, .eqN g g, .eqN g g, .eqN g g, .eqN g g, .eqN g g, .nn .u64 (x / 262144), .nn .u64 (x * 70368744177664 % 18446744073709551616), .nn .u64 (ior (x / 16384) (x *
 1125899906842624 % 18446744073709551616)), .nn .u64 (ior (x / 262144) (x * 70368744177664 % 18446744073709551616)), .nn .u64 (ior (x / 16384) (x * 1125899906842624 % 18446744073709551616)), .nn .u64 (ior (x / 262144) (x * 70368744177664 % 18446744073709551616)), .eqN g g, .eqN g g, .eqN g g, .eqN g g, .eqN g g, .eqN g g, .eqN g g, .eqN g g, .eqN g g, .eqN g g, .eqN g g, .eqN g g, .nn .u64 (x /
 2199023255552), .nn .u64 (x * 8388608 % 18446744073709551616), .nn .u64 (ixor (ior (x / 16384) (x * 1125899906842624 % 18446744073709551616)) (ior (x / 262144) (x * 70368744177664 % 18446744073709551616))), .nn .u64 (ior (x / 2199023255552) (x * 8388608 % 18446744073709551616))]) : OkR (R60b x x0 x1 x2 x3 x4 x5 x6 x7 g ow) := OkR.dem (fl := bitsF 113 289816618740375939446520736674878) (by
 kernel_rfl) (by kernel_rfl) (by kernel_rfl) h
theorem R60b_val {x x0 x1 x2 x3 x4 x5 x6 x7 : Int} {g : Nat} {ow : Bool} : (R60b x x0 x1 x2 x3 x4 x5 x6 x7 g ow).val = .int .u64 (ixor (ixor (ior (x / 16384) (x * 1125899906842624 % 18446744073709551616)) (ior (x / 262144) (x * 70368744177664 % 18446744073709551616))) (ior (x / 2199023255552) (x * 8388608 % 18446744073709551616))) := by kernel_rfl
theorem R60b_tab {x x0 x1 x2 x3 x4 x5 x6 x7 : Int} {g : Nat} {ow : Bool} : (R60b x x0 x1 x2 x3 x4 x5 x6 x7 g ow).tab = [some ⟨.agg [.int .i64 64, .int .i64 80, .int .i64 1, .int .i64 8, .int .i64 7, .int .i64 19, .int .i64 61, .int .i64 6, .int .i64 28, .int .i64 34, .int .i64 39, .int .i64 14, .int .i64 18, .int .i64 41, .int .u64 x0, .int .u64 x1, .int .u64 x2, .int .u64 x3, .int .u64 x4, .int
 .u64 x5, .int .u64 x6, .int .u64 x7], g, ow, 73⟩, some ⟨.agg [.int .i64 14, .int .i64 18, .int .i64 41], 0, true, 48⟩] := by kernel_rfl
def sm60 : Summary := fun args T => match args, T with
  | [.var 0 g, .int .u64 x, .agg [.int .i64 l0, .int .i64 l1, .int .i64 l2]], [some ⟨.agg [.int .i64 64, .int .i64 80, .int .i64 1, .int .i64 8, .int .i64 7, .int .i64 19, .int .i64 61, .int .i64 6, .int .i64 28, .int .i64 34, .int .i64 39, .int .i64 14, .int .i64 18, .int .i64 41, .int .u64 x0, .int .u64 x1, .int .u64 x2, .int .u64 x3, .int .u64 x4, .int .u64 x5, .int .u64 x6, .int .u64 x7], g', ow, 73⟩] => ⟨[.eqN g g', .p (Wd 64 x), .p (high64Law [l0, l1, l2])], .int .u64 (highLaw 64 [l0, l1, l2] x), [some ⟨.agg [.int .i64 64, .int .i64 80, .int .i64 1, .int .i64 8, .int .i64 7, .int .i64 19, .int .i64 61, .int .i64 6, .int .i64 28, .int .i64 34, .int .i64 39, .int .i64 14, .int .i64 18, .int .i64 41, .int .u64 x0, .int .u64 x1, .int .u64 x2, .int .u64 x3, .int .u64 x4, .int .u64 x5, .int .u64 x6, .int .u64 x7], g', ow, 73⟩]⟩
  | _, _ => fail
theorem sm60_ok : SmOk prog glS 60 sm60 := by
  intro args T hc
  unfold sm60 at hc ⊢
  split at hc
  · rename_i g x l0 l1 l2 x0 x1 x2 x3 x4 x5 x6 x7 g' ow
    obtain ⟨h1, h2, h3, _⟩ := hc
    simp only [Con.h] at h1 h2 h3
    subst h1
    have hd : ∀ d : Int, 0 < d → Wd 64 (x / d) := fun d h => h2.divk h
    have hm : ∀ y : Int, Wd 64 (y % 2 ^ 64) := fun y => Wd.mod 64 y
    rcases h3 with h3 | h3 <;> (injection h3 with e0 h3; injection h3 with e1 h3; injection h3 with e2 h3; subst e0 e1 e2)
    · refine small_drop (small_of (R := R60a x x0 x1 x2 x3 x4 x5 x6 x7 g ow) eU64_ok hmS (f := 60) (fn := f60) (by kernel_rfl) (by kernel_rfl) FnOrc.nil rfl (R60a_ok ?_) R60a_val R60a_tab)
      simp only [allP, Con.h, nn_64, eq_self, true_and, and_true]
      repeat' with_reducible apply And.intro
      all_goals repeat' (first | exact hd _ (by decide) | exact hm _ | apply Wd.ixor | apply Wd.ior)
    · refine small_drop (small_of (R := R60b x x0 x1 x2 x3 x4 x5 x6 x7 g ow) eU64_ok hmS (f := 60) (fn := f60) (by kernel_rfl) (by kernel_rfl) FnOrc.nil rfl (R60b_ok ?_) R60b_val R60b_tab)
      simp only [allP, Con.h, nn_64, eq_self, true_and, and_true]
      repeat' with_reducible apply And.intro
      all_goals repeat' (first | exact hd _ (by decide) | exact hm _ | apply Wd.ixor | apply Wd.ior)
  · exact absurd hc nofail
def S60 : Summary := callR sm60 []
theorem S60_ok : SumOk prog glS 60 S60 := callR_ok sm60_ok []
end Go.Abs

set_option linter.unusedVariables false
set_option linter.unusedSimpArgs false
set_option maxRecDepth 8000
namespace Go.Abs
open Go.Proofs Go.Proofs.Tryd
/-! ### a block -/
theorem set_zeros {l : List Int} {v : Int} {m : Nat} : (l ++ List.replicate (m + 1) 0).set l.length v = (l ++ [v]) ++ List.replicate m 0 := by
  rw [List.set_append, if_neg (by omega)]
  simp [List.replicate_succ]
theorem getD_left {a b : List Int} {i : Nat} (h : i < a.length) : (a ++ b).getD i 0 = a.getD i 0 := by
  rw [List.getD_eq_getElem?_getD, List.getElem?_append_left h, ← List.getD_eq_getElem?_getD]
def Wds (W : Nat) (l : List Int) : Prop := ∀ i, Wd W (l.getD i 0)
theorem Wd.zero (W : Nat) : Wd W 0 := ⟨Int.le_refl _, by rw [pow_nat]; exact_mod_cast Nat.two_pow_pos W⟩
theorem Wds.append {W : Nat} {a b : List Int} (ha : Wds W a) (hb : Wds W b) : Wds W (a ++ b) := fun i => by
  rcases Nat.lt_or_ge i a.length with h | h
  · rw [getD_left h]; exact ha i
  · rw [List.getD_eq_getElem?_getD, List.getElem?_append_right h, ← List.getD_eq_getElem?_getD]; exact hb _
theorem Wds.one {W : Nat} {x : Int} (h : Wd W x) : Wds W [x] := fun i => match i with
  | 0 => h
  | i + 1 => Wd.zero W
theorem Wds.zeros (W n : Nat) : Wds W (List.replicate n 0) := fun i => by
  rw [List.getD_eq_getElem?_getD, List.getElem?_replicate]; split <;> exact Wd.zero W
def nextLaw (W : Nat) (m : Int) (l0 l1 ws : List Int) (t : Nat) : Int := (((lowLaw W l1 (ws.getD (t - 2) 0) + ws.getD (t - 7) 0) % m + lowLaw W l0 (ws.getD (t - 15) 0)) % m + ws.getD (t - 16) 0) % m
def schLaw (W : Nat) (m : Int) (l0 l1 ws : List Int) : Nat → List Int
  | 0 => ws
  | i + 1 => schLaw W m l0 l1 ws i ++ [nextLaw W m l0 l1 (schLaw W m l0 l1 ws i) (16 + i)]
theorem schLaw_len {W : Nat} {m : Int} {l0 l1 ws : List Int} (h : ws.length = 16) : ∀ i, (schLaw W m l0 l1 ws i).length = 16 + i
  | 0 => h
  | i + 1 => by simp [schLaw, schLaw_len h i]; omega
theorem schLaw_wds {W : Nat} {m : Int} (hm : m = 2 ^ W) {l0 l1 ws : List Int} (h : Wds W ws) : ∀ i, Wds W (schLaw W m l0 l1 ws i)
  | 0 => h
  | i + 1 => (schLaw_wds hm h i).append (.one (by unfold nextLaw; rw [hm]; exact Wd.mod _ _))
def chLaw (m e f g : Int) : Int := ixor (iand e f) (iand (m - 1 - e) g)
def majLaw (a b c : Int) : Int := ixor (ixor (iand a b) (iand a c)) (iand b c)
def t1Law (W : Nat) (m : Int) (u1 : List Int) (c w : Int) (x : List Int) : Int := ((((x.getD 7 0 + highLaw W u1 (x.getD 4 0)) % m + chLaw m (x.getD 4 0) (x.getD 5 0) (x.getD 6 0)) % m + c) % m + w) % m
def t2Law (W : Nat) (m : Int) (u0 : List Int) (x : List Int) : Int := (highLaw W u0 (x.getD 0 0) + majLaw (x.getD 0 0) (x.getD 1 0) (x.getD 2 0)) % m
def rndLaw (W : Nat) (m : Int) (u0 u1 : List Int) (c w : Int) (x : List Int) : List Int :=
  [(t1Law W m u1 c w x + t2Law W m u0 x) % m, x.getD 0 0, x.getD 1 0, x.getD 2 0, (x.getD 3 0 + t1Law W m u1 c w x) % m, x.getD 4 0, x.getD 5 0, x.getD 6 0]
def cLaw (W : Nat) (t : Nat) : Int := cubesLaw.getD t 0 / 2 ^ (64 - W)
def rndsLaw (W : Nat) (m : Int) (u0 u1 ws x : List Int) : Nat → List Int
  | 0 => x
  | t + 1 => rndLaw W m u0 u1 (cLaw W t) (ws.getD t 0) (rndsLaw W m u0 u1 ws x t)
def wdLaw (bs : List Int) (a : Nat) : Nat → Int
  | 0 => 0
  | k + 1 => wdLaw bs a k * 256 + bs.getD (a + k) 0
def wordsLaw (n : Nat) (bs : List Int) (a i : Nat) : List Int := (List.range i).map fun j => wdLaw bs (a + n * j) n
theorem wordsLaw_len (n : Nat) (bs : List Int) (a i : Nat) : (wordsLaw n bs a i).length = i := by simp [wordsLaw]
theorem wordsLaw_succ (n : Nat) (bs : List Int) (a i : Nat) : wordsLaw n bs a (i + 1) = wordsLaw n bs a i ++ [wdLaw bs (a + n * i) n] := by simp [wordsLaw, List.range_succ]
def arrLaw (n : Nat) (bs : List Int) (a i k : Nat) : List Int := wordsLaw n bs a i ++ wdLaw bs (a + n * i) k :: List.replicate (79 - i) 0
noncomputable def eV32 : Env := eS0 [(54, S54), (55, S55)]
theorem eV32_ok : EnvOk eV32 := envOf_ok tysS_ok (SumsOk.cons (fn := f54) S54_ok (by kernel_rfl) (by kernel_rfl) (by kernel_rfl) (SumsOk.cons (fn := f55) S55_ok (by kernel_rfl) (by kernel_rfl) (by kernel_rfl) trivial))
noncomputable def C45 (i k : Int) (off a : Nat) (x0 x1 x2 x3 x4 x5 x6 x7 : Int) (zs ws : List Int) (g g1 e1 : Nat) (ow ow1 : Bool) : Out := trim 3 3 [0,1,4,5,6,23,35,36,37] (run eV32 204 ⟨3, []⟩ 400 (roundOf 2 f45) [(0, .var 0 g), (1, .slice 1 1 g1 off 64 none), (4, .var 2 0), (5, .int .i64 4), (6, .int .i64 i), (23, .int .i64 i), (35, .slice 1 1 g1 a 4 none), (36, .int .i64 4), (37, .int .i64 k)] [some ⟨.agg [.int .i64 32, .int .i64 64, .int .i64 7, .int .i64 18, .int .i64 3, .int .i64 17, .int .i64 19, .int .i64 10, .int .i64 2, .int .i64 13, .int .i64 22, .int .i64 6, .int .i64 11, .int .i64 25, .int .u32 x0, .int .u32 x1, .int .u32 x2, .int .u32 x3, .int .u32 x4, .int .u32 x5, .int .u32 x6, .int .u32 x7], g, ow, 64⟩, some ⟨.ints .u8 zs, g1, ow1, e1⟩, some ⟨.ints .u32 ws, 0, true, 77⟩] [some true])
theorem C45_ok {i k : Int} {off a : Nat} {x0 x1 x2 x3 x4 x5 x6 x7 : Int} {zs ws : List Int} {g g1 e1 : Nat} {ow ow1 : Bool} (h : allP [.p (decide (k < 4) = true), .eqN g1 g1, .leI 0 k, .leI (k + 1) 4, .eqN g1 g1, .leN (addO a k.toNat + 1) zs.length, .leI 0 i, .leI (i + 1) 80, .leN (i.toNat + 1) ws.length, .rng 0 (zs.getD (addO a k.toNat) 0) 4294967295, .nn .u32 (ws.getD i.toNat 0 * 256 %
 4294967296), .nn .u32 (zs.getD (addO a k.toNat) 0), .leI 0 i, .leI (i + 1) 80, .leN (i.toNat + 1) ws.length, .rng (-9223372036854775808) (k + 1) 9223372036854775807]) : Ok (C45 i k off a x0 x1 x2 x3 x4 x5 x6 x7 zs ws g g1 e1 ow ow1) := Ok.dem (fl := bitsF 23 3017472) (by kernel_rfl) (by kernel_rfl) (by kernel_rfl) h
theorem C45_ex {i k : Int} {off a : Nat} {x0 x1 x2 x3 x4 x5 x6 x7 : Int} {zs ws : List Int} {g g1 e1 : Nat} {ow ow1 : Bool} : (C45 i k off a x0 x1 x2 x3 x4 x5 x6 x7 zs ws g g1 e1 ow ow1).ex = .normal := by kernel_rfl
theorem C45_fm {i k : Int} {off a : Nat} {x0 x1 x2 x3 x4 x5 x6 x7 : Int} {zs ws : List Int} {g g1 e1 : Nat} {ow ow1 : Bool} : (C45 i k off a x0 x1 x2 x3 x4 x5 x6 x7 zs ws g g1 e1 ow ow1).fm = [(0, .var 0 g), (1, .slice 1 1 g1 off 64 none), (4, .var 2 0), (5, .int .i64 4), (6, .int .i64 i), (23, .int .i64 i), (35, .slice 1 1 g1 a 4 none), (36, .int .i64 4), (37, .int .i64 (k + 1))] := by kernel_rfl
theorem C45_tab {i k : Int} {off a : Nat} {x0 x1 x2 x3 x4 x5 x6 x7 : Int} {zs ws : List Int} {g g1 e1 : Nat} {ow ow1 : Bool} : (C45 i k off a x0 x1 x2 x3 x4 x5 x6 x7 zs ws g g1 e1 ow ow1).tab = [some ⟨.agg [.int .i64 32, .int .i64 64, .int .i64 7, .int .i64 18, .int .i64 3, .int .i64 17, .int .i64 19, .int .i64 10, .int .i64 2, .int .i64 13, .int .i64 22, .int .i64 6, .int .i64 11, .int .i64 25,
 .int .u32 x0, .int .u32 x1, .int .u32 x2, .int .u32 x3, .int .u32 x4, .int .u32 x5, .int .u32 x6, .int .u32 x7], g, ow, 64⟩, some ⟨.ints .u8 zs, g1, ow1, e1⟩, some ⟨.ints .u32 (ws.set i.toNat (ior (ws.getD i.toNat 0 * 256 % 4294967296) (zs.getD (addO a k.toNat) 0))), 0, true, 77⟩] := by kernel_rfl
noncomputable def D45 (i k : Int) (off a : Nat) (x0 x1 x2 x3 x4 x5 x6 x7 : Int) (zs ws : List Int) (g g1 e1 : Nat) (ow ow1 : Bool) : Out := trim 3 3 [0,1,4,5,23] (run eV32 204 ⟨3, []⟩ 400 (roundOf 2 f45) [(0, .var 0 g), (1, .slice 1 1 g1 off 64 none), (4, .var 2 0), (5, .int .i64 4), (6, .int .i64 i), (23, .int .i64 i), (35, .slice 1 1 g1 a 4 none), (36, .int .i64 4), (37, .int .i64 k)] [some ⟨.agg [.int .i64 32, .int .i64 64, .int .i64 7, .int .i64 18, .int .i64 3, .int .i64 17, .int .i64 19, .int .i64 10, .int .i64 2, .int .i64 13, .int .i64 22, .int .i64 6, .int .i64 11, .int .i64 25, .int .u32 x0, .int .u32 x1, .int .u32 x2, .int .u32 x3, .int .u32 x4, .int .u32 x5, .int .u32 x6, .int .u32 x7], g, ow, 64⟩, some ⟨.ints .u8 zs, g1, ow1, e1⟩, some ⟨.ints .u32 ws, 0, true, 77⟩] [some false])
theorem D45_ok {i k : Int} {off a : Nat} {x0 x1 x2 x3 x4 x5 x6 x7 : Int} {zs ws : List Int} {g g1 e1 : Nat} {ow ow1 : Bool} (h : allP [.p (decide (k < 4) = false)]) : Ok (D45 i k off a x0 x1 x2 x3 x4 x5 x6 x7 zs ws g g1 e1 ow ow1) := Ok.dem (fl := [false]) (by kernel_rfl) (by kernel_rfl) (by kernel_rfl) h
theorem D45_ex {i k : Int} {off a : Nat} {x0 x1 x2 x3 x4 x5 x6 x7 : Int} {zs ws : List Int} {g g1 e1 : Nat} {ow ow1 : Bool} : (D45 i k off a x0 x1 x2 x3 x4 x5 x6 x7 zs ws g g1 e1 ow ow1).ex = .exit 2 := by kernel_rfl
theorem D45_fm {i k : Int} {off a : Nat} {x0 x1 x2 x3 x4 x5 x6 x7 : Int} {zs ws : List Int} {g g1 e1 : Nat} {ow ow1 : Bool} : (D45 i k off a x0 x1 x2 x3 x4 x5 x6 x7 zs ws g g1 e1 ow ow1).fm = [(0, .var 0 g), (1, .slice 1 1 g1 off 64 none), (4, .var 2 0), (5, .int .i64 4), (23, .int .i64 i)] := by kernel_rfl
theorem D45_tab {i k : Int} {off a : Nat} {x0 x1 x2 x3 x4 x5 x6 x7 : Int} {zs ws : List Int} {g g1 e1 : Nat} {ow ow1 : Bool} : (D45 i k off a x0 x1 x2 x3 x4 x5 x6 x7 zs ws g g1 e1 ow ow1).tab = [some ⟨.agg [.int .i64 32, .int .i64 64, .int .i64 7, .int .i64 18, .int .i64 3, .int .i64 17, .int .i64 19, .int .i64 10, .int .i64 2, .int .i64 13, .int .i64 22, .int .i64 6, .int .i64 11, .int .i64 25,
 .int .u32 x0, .int .u32 x1, .int .u32 x2, .int .u32 x3, .int .u32 x4, .int .u32 x5, .int .u32 x6, .int .u32 x7], g, ow, 64⟩, some ⟨.ints .u8 zs, g1, ow1, e1⟩, some ⟨.ints .u32 ws, 0, true, 77⟩] := by kernel_rfl
noncomputable def E45 (t : Int) (x0 x1 x2 x3 x4 x5 x6 x7 : Int) (zs ws : List Int) (g g1 e1 : Nat) (ow ow1 : Bool) : Out := trim 3 3 [0,4,9] (run eV32 204 ⟨3, []⟩ 400 (roundOf 4 f45) [(0, .var 0 g), (4, .var 2 0), (9, .int .i64 t)] [some ⟨.agg [.int .i64 32, .int .i64 64, .int .i64 7, .int .i64 18, .int .i64 3, .int .i64 17, .int .i64 19, .int .i64 10, .int .i64 2, .int .i64 13, .int .i64 22, .int .i64 6, .int .i64 11, .int .i64 25, .int .u32 x0, .int .u32 x1, .int .u32 x2, .int .u32 x3, .int .u32 x4, .int .u32 x5, .int .u32 x6, .int .u32 x7], g, ow, 64⟩, some ⟨.ints .u8 zs, g1, ow1, e1⟩, some ⟨.ints .u32 ws, 0, true, 77⟩] [some true])
theorem E45_ok {t : Int} {x0 x1 x2 x3 x4 x5 x6 x7 : Int} {zs ws : List Int} {g g1 e1 : Nat} {ow ow1 : Bool} (h : allP [.eqN g g, .eqN g g, .eqN g g, .eqN g g, .p (decide (t < 64) = true), .rng (-9223372036854775808) (t - 2) 9223372036854775807, .leI 0 (t - 2), .leI (t - 2 + 1) 80, .leN ((t - 2).toNat + 1) ws.length, .eqN g g, .eqN g g, .eqN g g, .eqN g g, .eqN g g, .eqN g g, .p (0 ≤ ws.getD (t -
 2).toNat 0 ∧ ws.getD (t - 2).toNat 0 < 4294967296), .p (low32Law [17, 19, 10]), .rng (-9223372036854775808) (t - 7) 9223372036854775807, .rng (-9223372036854775808) (t - 7) 9223372036854775807, .rng (-9223372036854775808) (t - 7) 9223372036854775807, .leI 0 (t - 7), .leI (t - 7 + 1) 80, .leI 0 (t - 7), .leI (t - 7 + 1) 80, .leI 0 (t - 7), .leI (t - 7 + 1) 80, .leN ((t - 7).toNat + 1) ws.length,
 .leN ((t - 7).toNat + 1) ws.length, .leN ((t - 7).toNat + 1) ws.length, .rng (-9223372036854775808) (t - 15) 9223372036854775807, .rng (-9223372036854775808) (t - 15) 9223372036854775807, .leI 0 (t - 15), .leI (t - 15 + 1) 80, .leI 0 (t - 15), .leI (t - 15 + 1) 80, .leN ((t - 15).toNat + 1) ws.length, .leN ((t - 15).toNat + 1) ws.length, .eqN g g, .eqN g g, .eqN g g, .eqN g g, .eqN g g, .eqN g g,
 .eqN g g, .eqN g g, .eqN g g, .eqN g g, .p (0 ≤ ws.getD (t - 15).toNat 0 ∧ ws.getD (t - 15).toNat 0 < 4294967296), .p (low32Law [7, 18, 3]), .rng (-9223372036854775808) (t - 16) 9223372036854775807, .rng (-9223372036854775808) (t - 16) 9223372036854775807, .rng (-9223372036854775808) (t - 16) 9223372036854775807, .leI 0 (t - 16), .leI (t - 16 + 1) 80, .leI 0 (t - 16), .leI (t - 16 + 1) 80, .leI 0
 (t - 16), .leI (t - 16 + 1) 80, .leN ((t - 16).toNat + 1) ws.length, .leN ((t - 16).toNat + 1) ws.length, .leN ((t - 16).toNat + 1) ws.length, .leI 0 t, .leI (t + 1) 80, .leN (t.toNat + 1) ws.length, .rng (-9223372036854775808) (t + 1) 9223372036854775807]) : Ok (E45 t x0 x1 x2 x3 x4 x5 x6 x7 zs ws g g1 e1 ow ow1) := Ok.dem (fl := bitsF 124 3827577498163416572421203041007972368) (by kernel_rfl) (by
 kernel_rfl) (by kernel_rfl) h
theorem E45_ex {t : Int} {x0 x1 x2 x3 x4 x5 x6 x7 : Int} {zs ws : List Int} {g g1 e1 : Nat} {ow ow1 : Bool} : (E45 t x0 x1 x2 x3 x4 x5 x6 x7 zs ws g g1 e1 ow ow1).ex = .normal := by kernel_rfl
theorem E45_fm {t : Int} {x0 x1 x2 x3 x4 x5 x6 x7 : Int} {zs ws : List Int} {g g1 e1 : Nat} {ow ow1 : Bool} : (E45 t x0 x1 x2 x3 x4 x5 x6 x7 zs ws g g1 e1 ow ow1).fm = [(0, .var 0 g), (4, .var 2 0), (9, .int .i64 (t + 1))] := by kernel_rfl
theorem E45_tab {t : Int} {x0 x1 x2 x3 x4 x5 x6 x7 : Int} {zs ws : List Int} {g g1 e1 : Nat} {ow ow1 : Bool} : (E45 t x0 x1 x2 x3 x4 x5 x6 x7 zs ws g g1 e1 ow ow1).tab = [some ⟨.agg [.int .i64 32, .int .i64 64, .int .i64 7, .int .i64 18, .int .i64 3, .int .i64 17, .int .i64 19, .int .i64 10, .int .i64 2, .int .i64 13, .int .i64 22, .int .i64 6, .int .i64 11, .int .i64 25, .int .u32 x0, .int .u32
 x1, .int .u32 x2, .int .u32 x3, .int .u32 x4, .int .u32 x5, .int .u32 x6, .int .u32 x7], g, ow, 64⟩, some ⟨.ints .u8 zs, g1, ow1, e1⟩, some ⟨.ints .u32 (ws.set t.toNat ((((lowLaw 32 [17, 19, 10] (ws.getD (t - 2).toNat 0) + ws.getD (t - 7).toNat 0) % 4294967296 + lowLaw 32 [7, 18, 3] (ws.getD (t - 15).toNat 0)) % 4294967296 + ws.getD (t - 16).toNat 0) % 4294967296)), 0, true, 77⟩] := by kernel_rfl
noncomputable def F45 (t : Int) (x0 x1 x2 x3 x4 x5 x6 x7 : Int) (zs ws : List Int) (g g1 e1 : Nat) (ow ow1 : Bool) : Out := trim 3 3 [0,4] (run eV32 204 ⟨3, []⟩ 400 (roundOf 4 f45) [(0, .var 0 g), (4, .var 2 0), (9, .int .i64 t)] [some ⟨.agg [.int .i64 32, .int .i64 64, .int .i64 7, .int .i64 18, .int .i64 3, .int .i64 17, .int .i64 19, .int .i64 10, .int .i64 2, .int .i64 13, .int .i64 22, .int .i64 6, .int .i64 11, .int .i64 25, .int .u32 x0, .int .u32 x1, .int .u32 x2, .int .u32 x3, .int .u32 x4, .int .u32 x5, .int .u32 x6, .int .u32 x7], g, ow, 64⟩, some ⟨.ints .u8 zs, g1, ow1, e1⟩, some ⟨.ints .u32 ws, 0, true, 77⟩] [some false])
theorem F45_ok {t : Int} {x0 x1 x2 x3 x4 x5 x6 x7 : Int} {zs ws : List Int} {g g1 e1 : Nat} {ow ow1 : Bool} (h : allP [.eqN g g, .eqN g g, .eqN g g, .eqN g g, .p (decide (t < 64) = false)]) : Ok (F45 t x0 x1 x2 x3 x4 x5 x6 x7 zs ws g g1 e1 ow ow1) := Ok.dem (fl := [false, false, false, false, true, false]) (by kernel_rfl) (by kernel_rfl) (by kernel_rfl) h
theorem F45_ex {t : Int} {x0 x1 x2 x3 x4 x5 x6 x7 : Int} {zs ws : List Int} {g g1 e1 : Nat} {ow ow1 : Bool} : (F45 t x0 x1 x2 x3 x4 x5 x6 x7 zs ws g g1 e1 ow ow1).ex = .exit 4 := by kernel_rfl
theorem F45_fm {t : Int} {x0 x1 x2 x3 x4 x5 x6 x7 : Int} {zs ws : List Int} {g g1 e1 : Nat} {ow ow1 : Bool} : (F45 t x0 x1 x2 x3 x4 x5 x6 x7 zs ws g g1 e1 ow ow1).fm = [(0, .var 0 g), (4, .var 2 0)] := by kernel_rfl
theorem F45_tab {t : Int} {x0 x1 x2 x3 x4 x5 x6 x7 : Int} {zs ws : List Int} {g g1 e1 : Nat} {ow ow1 : Bool} : (F45 t x0 x1 x2 x3 x4 x5 x6 x7 zs ws g g1 e1 ow ow1).tab = [some ⟨.agg [.int .i64 32, .int .i64 64, .int .i64 7, .int .i64 18, .int .i64 3, .int .i64 17, .int .i64 19, .int .i64 10, .int .i64 2, .int .i64 13, .int .i64 22, .int .i64 6, .int .i64 11, .int .i64 25, .int .u32 x0, .int .u32
 x1, .int .u32 x2, .int .u32 x3, .int .u32 x4, .int .u32 x5, .int .u32 x6, .int .u32 x7], g, ow, 64⟩, some ⟨.ints .u8 zs, g1, ow1, e1⟩, some ⟨.ints .u32 ws, 0, true, 77⟩] := by kernel_rfl
noncomputable def G45 (t y0 y1 y2 y3 y4 y5 y6 y7 : Int) (x0 x1 x2 x3 x4 x5 x6 x7 : Int) (zs ws : List Int) (g g1 e1 : Nat) (ow ow1 : Bool) : Out := trim 4 4 [0,4,10,104,105] (run eV32 204 ⟨4, []⟩ 400 (roundOf 6 f45) [(0, .var 0 g), (4, .var 2 0), (10, .var 3 0), (104, .int .i64 64), (105, .int .i64 t)] [some ⟨.agg [.int .i64 32, .int .i64 64, .int .i64 7, .int .i64 18, .int .i64 3, .int .i64 17, .int .i64 19, .int .i64 10, .int .i64 2, .int .i64 13, .int .i64 22, .int .i64 6, .int .i64 11, .int .i64 25, .int .u32 x0, .int .u32 x1, .int .u32 x2, .int .u32 x3, .int .u32 x4, .int .u32 x5, .int .u32 x6, .int .u32 x7], g, ow, 64⟩, some ⟨.ints .u8 zs, g1, ow1, e1⟩, some ⟨.ints .u32 ws, 0, true, 77⟩, some ⟨.agg [.int .u32 y0, .int .u32 y1, .int .u32 y2, .int .u32 y3, .int .u32 y4, .int .u32 y5, .int .u32 y6, .int .u32 y7], 0, true, 62⟩] [some true])
theorem G45_ok {t y0 y1 y2 y3 y4 y5 y6 y7 : Int} {x0 x1 x2 x3 x4 x5 x6 x7 : Int} {zs ws : List Int} {g g1 e1 : Nat} {ow ow1 : Bool} (h : allP [.p (decide (t < 64) = true), .eqN g g, .eqN g g, .eqN g g, .eqN g g, .eqN g g, .eqN g g, .p (0 ≤ y4 ∧ y4 < 4294967296), .p (high32Law [6, 11, 25]), .nn .u32 y4, .nn .u32 y5, .nn .u32 y4, .nn .u32 y5, .nn .u32 y4, .nn .u32 y4, .nn .u32 (4294967295 - y4), .nn
 .u32 y6, .nn .u32 (4294967295 - y4), .nn .u32 y6, .nn .u32 (iand y4 y5), .nn .u32 (iand (4294967295 - y4) y6), .nn .u32 (iand y4 y5), .nn .u32 (iand (4294967295 - y4) y6), .leI 0 t, .leI (t + 1) 80, .leI 0 t, .leI (t + 1) 80, .leN (t.toNat + 1) 80, .leN (t.toNat + 1) 80, .eqN g g, .eqN g g, .eqN g g, .eqN g g, .eqN g g, .eqN g g, .eqN g g, .eqN g g, .leI 0 t, .leI (t + 1) 80, .leI 0 t, .leI (t + 1)
 80, .leN (t.toNat + 1) ws.length, .leN (t.toNat + 1) ws.length, .eqN g g, .eqN g g, .eqN g g, .eqN g g, .eqN g g, .eqN g g, .p (0 ≤ y0 ∧ y0 < 4294967296), .p (high32Law [2, 13, 22]), .nn .u32 y0, .nn .u32 y1, .nn .u32 y0, .nn .u32 y1, .nn .u32 y0, .nn .u32 y2, .nn .u32 y0, .nn .u32 y2, .nn .u32 (iand y0 y1), .nn .u32 (iand y0 y2), .nn .u32 (iand y0 y1), .nn .u32 (iand y0 y2), .nn .u32 y1, .nn .u32
 y2, .nn .u32 y1, .nn .u32 y2, .nn .u32 (ixor (iand y0 y1) (iand y0 y2)), .nn .u32 (iand y1 y2), .nn .u32 (ixor (iand y0 y1) (iand y0 y2)), .nn .u32 (iand y1 y2), .rng (-9223372036854775808) (t + 1) 9223372036854775807]) : Ok (G45 t y0 y1 y2 y3 y4 y5 y6 y7 x0 x1 x2 x3 x4 x5 x6 x7 zs ws g g1 e1 ow ow1) := Ok.dem (fl := bitsF 246
 56539052151369848767179745080938652686016957293525303077195846636038254588) (by kernel_rfl) (by kernel_rfl) (by kernel_rfl) h
theorem G45_ex {t y0 y1 y2 y3 y4 y5 y6 y7 : Int} {x0 x1 x2 x3 x4 x5 x6 x7 : Int} {zs ws : List Int} {g g1 e1 : Nat} {ow ow1 : Bool} : (G45 t y0 y1 y2 y3 y4 y5 y6 y7 x0 x1 x2 x3 x4 x5 x6 x7 zs ws g g1 e1 ow ow1).ex = .normal := by kernel_rfl
theorem G45_fm {t y0 y1 y2 y3 y4 y5 y6 y7 : Int} {x0 x1 x2 x3 x4 x5 x6 x7 : Int} {zs ws : List Int} {g g1 e1 : Nat} {ow ow1 : Bool} : (G45 t y0 y1 y2 y3 y4 y5 y6 y7 x0 x1 x2 x3 x4 x5 x6 x7 zs ws g g1 e1 ow ow1).fm = [(0, .var 0 g), (4, .var 2 0), (10, .var 3 0), (104, .int .i64 64), (105, .int .i64 (t + 1))] := by kernel_rfl
theorem G45_tab {t y0 y1 y2 y3 y4 y5 y6 y7 : Int} {x0 x1 x2 x3 x4 x5 x6 x7 : Int} {zs ws : List Int} {g g1 e1 : Nat} {ow ow1 : Bool} : (G45 t y0 y1 y2 y3 y4 y5 y6 y7 x0 x1 x2 x3 x4 x5 x6 x7 zs ws g g1 e1 ow ow1).tab = [some ⟨.agg [.int .i64 32, .int .i64 64, .int .i64 7, .int .i64 18, .int .i64 3, .int .i64 17, .int .i64 19, .int .i64 10, .int .i64 2, .int .i64 13, .int .i64 22, .int .i64 6, .int
 .i64 11, .int .i64 25, .int .u32 x0, .int .u32 x1, .int .u32 x2, .int .u32 x3, .int .u32 x4, .int .u32 x5, .int .u32 x6, .int .u32 x7], g, ow, 64⟩, some ⟨.ints .u8 zs, g1, ow1, e1⟩, some ⟨.ints .u32 ws, 0, true, 77⟩, some ⟨.agg [.int .u32 ((((((y7 + highLaw 32 [6, 11, 25] y4) % 4294967296 + ixor (iand y4 y5) (iand (4294967295 - y4) y6)) % 4294967296 + cubesLaw.getD t.toNat 0 / 4294967296 %
 4294967296) % 4294967296 + ws.getD t.toNat 0) % 4294967296 + (highLaw 32 [2, 13, 22] y0 + ixor (ixor (iand y0 y1) (iand y0 y2)) (iand y1 y2)) % 4294967296) % 4294967296), .int .u32 y0, .int .u32 y1, .int .u32 y2, .int .u32 ((y3 + ((((y7 + highLaw 32 [6, 11, 25] y4) % 4294967296 + ixor (iand y4 y5) (iand (4294967295 - y4) y6)) % 4294967296 + cubesLaw.getD t.toNat 0 / 4294967296 % 4294967296) %
 4294967296 + ws.getD t.toNat 0) % 4294967296) % 4294967296), .int .u32 y4, .int .u32 y5, .int .u32 y6], 0, true, 62⟩] := by kernel_rfl
noncomputable def H45 (t y0 y1 y2 y3 y4 y5 y6 y7 : Int) (x0 x1 x2 x3 x4 x5 x6 x7 : Int) (zs ws : List Int) (g g1 e1 : Nat) (ow ow1 : Bool) : Out := trim 4 4 [0,10] (run eV32 204 ⟨4, []⟩ 400 (roundOf 6 f45) [(0, .var 0 g), (4, .var 2 0), (10, .var 3 0), (104, .int .i64 64), (105, .int .i64 t)] [some ⟨.agg [.int .i64 32, .int .i64 64, .int .i64 7, .int .i64 18, .int .i64 3, .int .i64 17, .int .i64 19, .int .i64 10, .int .i64 2, .int .i64 13, .int .i64 22, .int .i64 6, .int .i64 11, .int .i64 25, .int .u32 x0, .int .u32 x1, .int .u32 x2, .int .u32 x3, .int .u32 x4, .int .u32 x5, .int .u32 x6, .int .u32 x7], g, ow, 64⟩, some ⟨.ints .u8 zs, g1, ow1, e1⟩, some ⟨.ints .u32 ws, 0, true, 77⟩, some ⟨.agg [.int .u32 y0, .int .u32 y1, .int .u32 y2, .int .u32 y3, .int .u32 y4, .int .u32 y5, .int .u32 y6, .int .u32 y7], 0, true, 62⟩] [some false])
theorem H45_ok {t y0 y1 y2 y3 y4 y5 y6 y7 : Int} {x0 x1 x2 x3 x4 x5 x6 x7 : Int} {zs ws : List Int} {g g1 e1 : Nat} {ow ow1 : Bool} (h : allP [.p (decide (t < 64) = false)]) : Ok (H45 t y0 y1 y2 y3 y4 y5 y6 y7 x0 x1 x2 x3 x4 x5 x6 x7 zs ws g g1 e1 ow ow1) := Ok.dem (fl := [false]) (by kernel_rfl) (by kernel_rfl) (by kernel_rfl) h
theorem H45_ex {t y0 y1 y2 y3 y4 y5 y6 y7 : Int} {x0 x1 x2 x3 x4 x5 x6 x7 : Int} {zs ws : List Int} {g g1 e1 : Nat} {ow ow1 : Bool} : (H45 t y0 y1 y2 y3 y4 y5 y6 y7 x0 x1 x2 x3 x4 x5 x6 x7 zs ws g g1 e1 ow ow1).ex = .exit 6 := by kernel_rfl
theorem H45_fm {t y0 y1 y2 y3 y4 y5 y6 y7 : Int} {x0 x1 x2 x3 x4 x5 x6 x7 : Int} {zs ws : List Int} {g g1 e1 : Nat} {ow ow1 : Bool} : (H45 t y0 y1 y2 y3 y4 y5 y6 y7 x0 x1 x2 x3 x4 x5 x6 x7 zs ws g g1 e1 ow ow1).fm = [(0, .var 0 g), (10, .var 3 0)] := by kernel_rfl
theorem H45_tab {t y0 y1 y2 y3 y4 y5 y6 y7 : Int} {x0 x1 x2 x3 x4 x5 x6 x7 : Int} {zs ws : List Int} {g g1 e1 : Nat} {ow ow1 : Bool} : (H45 t y0 y1 y2 y3 y4 y5 y6 y7 x0 x1 x2 x3 x4 x5 x6 x7 zs ws g g1 e1 ow ow1).tab = [some ⟨.agg [.int .i64 32, .int .i64 64, .int .i64 7, .int .i64 18, .int .i64 3, .int .i64 17, .int .i64 19, .int .i64 10, .int .i64 2, .int .i64 13, .int .i64 22, .int .i64 6, .int
 .i64 11, .int .i64 25, .int .u32 x0, .int .u32 x1, .int .u32 x2, .int .u32 x3, .int .u32 x4, .int .u32 x5, .int .u32 x6, .int .u32 x7], g, ow, 64⟩, some ⟨.ints .u8 zs, g1, ow1, e1⟩, some ⟨.ints .u32 ws, 0, true, 77⟩, some ⟨.agg [.int .u32 y0, .int .u32 y1, .int .u32 y2, .int .u32 y3, .int .u32 y4, .int .u32 y5, .int .u32 y6, .int .u32 y7], 0, true, 62⟩] := by kernel_rfl
noncomputable def eV64 : Env := eS0 [(59, S59), (60, S60)]
theorem eV64_ok : EnvOk eV64 := envOf_ok tysS_ok (SumsOk.cons (fn := f59) S59_ok (by kernel_rfl) (by kernel_rfl) (by kernel_rfl) (SumsOk.cons (fn := f60) S60_ok (by kernel_rfl) (by kernel_rfl) (by kernel_rfl) trivial))
noncomputable def C51 (i k : Int) (off a : Nat) (x0 x1 x2 x3 x4 x5 x6 x7 : Int) (zs ws : List Int) (g g1 e1 : Nat) (ow ow1 : Bool) : Out := trim 3 3 [0,1,4,5,6,23,35,36,37] (run eV64 203 ⟨3, []⟩ 400 (roundOf 2 f51) [(0, .var 0 g), (1, .slice 1 1 g1 off 128 none), (4, .var 2 0), (5, .int .i64 8), (6, .int .i64 i), (23, .int .i64 i), (35, .slice 1 1 g1 a 8 none), (36, .int .i64 8), (37, .int .i64 k)] [some ⟨.agg [.int .i64 64, .int .i64 80, .int .i64 1, .int .i64 8, .int .i64 7, .int .i64 19, .int .i64 61, .int .i64 6, .int .i64 28, .int .i64 34, .int .i64 39, .int .i64 14, .int .i64 18, .int .i64 41, .int .u64 x0, .int .u64 x1, .int .u64 x2, .int .u64 x3, .int .u64 x4, .int .u64 x5, .int .u64 x6, .int .u64 x7], g, ow, 73⟩, some ⟨.ints .u8 zs, g1, ow1, e1⟩, some ⟨.ints .u64 ws, 0, true, 79⟩] [some true])
theorem C51_ok {i k : Int} {off a : Nat} {x0 x1 x2 x3 x4 x5 x6 x7 : Int} {zs ws : List Int} {g g1 e1 : Nat} {ow ow1 : Bool} (h : allP [.p (decide (k < 8) = true), .eqN g1 g1, .leI 0 k, .leI (k + 1) 8, .eqN g1 g1, .leN (addO a k.toNat + 1) zs.length, .leI 0 i, .leI (i + 1) 80, .leN (i.toNat + 1) ws.length, .rng 0 (zs.getD (addO a k.toNat) 0) 18446744073709551615, .nn .u64 (ws.getD i.toNat 0 * 256 %
 18446744073709551616), .nn .u64 (zs.getD (addO a k.toNat) 0), .leI 0 i, .leI (i + 1) 80, .leN (i.toNat + 1) ws.length, .rng (-9223372036854775808) (k + 1) 9223372036854775807]) : Ok (C51 i k off a x0 x1 x2 x3 x4 x5 x6 x7 zs ws g g1 e1 ow ow1) := Ok.dem (fl := bitsF 23 3017472) (by kernel_rfl) (by kernel_rfl) (by kernel_rfl) h
theorem C51_ex {i k : Int} {off a : Nat} {x0 x1 x2 x3 x4 x5 x6 x7 : Int} {zs ws : List Int} {g g1 e1 : Nat} {ow ow1 : Bool} : (C51 i k off a x0 x1 x2 x3 x4 x5 x6 x7 zs ws g g1 e1 ow ow1).ex = .normal := by kernel_rfl
theorem C51_fm {i k : Int} {off a : Nat} {x0 x1 x2 x3 x4 x5 x6 x7 : Int} {zs ws : List Int} {g g1 e1 : Nat} {ow ow1 : Bool} : (C51 i k off a x0 x1 x2 x3 x4 x5 x6 x7 zs ws g g1 e1 ow ow1).fm = [(0, .var 0 g), (1, .slice 1 1 g1 off 128 none), (4, .var 2 0), (5, .int .i64 8), (6, .int .i64 i), (23, .int .i64 i), (35, .slice 1 1 g1 a 8 none), (36, .int .i64 8), (37, .int .i64 (k + 1))] := by kernel_rfl
theorem C51_tab {i k : Int} {off a : Nat} {x0 x1 x2 x3 x4 x5 x6 x7 : Int} {zs ws : List Int} {g g1 e1 : Nat} {ow ow1 : Bool} : (C51 i k off a x0 x1 x2 x3 x4 x5 x6 x7 zs ws g g1 e1 ow ow1).tab = [some ⟨.agg [.int .i64 64, .int .i64 80, .int .i64 1, .int .i64 8, .int .i64 7, .int .i64 19, .int .i64 61, .int .i64 6, .int .i64 28, .int .i64 34, .int .i64 39, .int .i64 14, .int .i64 18, .int .i64 41,
 .int .u64 x0, .int .u64 x1, .int .u64 x2, .int .u64 x3, .int .u64 x4, .int .u64 x5, .int .u64 x6, .int .u64 x7], g, ow, 73⟩, some ⟨.ints .u8 zs, g1, ow1, e1⟩, some ⟨.ints .u64 (ws.set i.toNat (ior (ws.getD i.toNat 0 * 256 % 18446744073709551616) (zs.getD (addO a k.toNat) 0))), 0, true, 79⟩] := by kernel_rfl
noncomputable def D51 (i k : Int) (off a : Nat) (x0 x1 x2 x3 x4 x5 x6 x7 : Int) (zs ws : List Int) (g g1 e1 : Nat) (ow ow1 : Bool) : Out := trim 3 3 [0,1,4,5,23] (run eV64 203 ⟨3, []⟩ 400 (roundOf 2 f51) [(0, .var 0 g), (1, .slice 1 1 g1 off 128 none), (4, .var 2 0), (5, .int .i64 8), (6, .int .i64 i), (23, .int .i64 i), (35, .slice 1 1 g1 a 8 none), (36, .int .i64 8), (37, .int .i64 k)] [some ⟨.agg [.int .i64 64, .int .i64 80, .int .i64 1, .int .i64 8, .int .i64 7, .int .i64 19, .int .i64 61, .int .i64 6, .int .i64 28, .int .i64 34, .int .i64 39, .int .i64 14, .int .i64 18, .int .i64 41, .int .u64 x0, .int .u64 x1, .int .u64 x2, .int .u64 x3, .int .u64 x4, .int .u64 x5, .int .u64 x6, .int .u64 x7], g, ow, 73⟩, some ⟨.ints .u8 zs, g1, ow1, e1⟩, some ⟨.ints .u64 ws, 0, true, 79⟩] [some false])
theorem D51_ok {i k : Int} {off a : Nat} {x0 x1 x2 x3 x4 x5 x6 x7 : Int} {zs ws : List Int} {g g1 e1 : Nat} {ow ow1 : Bool} (h : allP [.p (decide (k < 8) = false)]) : Ok (D51 i k off a x0 x1 x2 x3 x4 x5 x6 x7 zs ws g g1 e1 ow ow1) := Ok.dem (fl := [false]) (by kernel_rfl) (by kernel_rfl) (by kernel_rfl) h
theorem D51_ex {i k : Int} {off a : Nat} {x0 x1 x2 x3 x4 x5 x6 x7 : Int} {zs ws : List Int} {g g1 e1 : Nat} {ow ow1 : Bool} : (D51 i k off a x0 x1 x2 x3 x4 x5 x6 x7 zs ws g g1 e1 ow ow1).ex = .exit 2 := by kernel_rfl
theorem D51_fm {i k : Int} {off a : Nat} {x0 x1 x2 x3 x4 x5 x6 x7 : Int} {zs ws : List Int} {g g1 e1 : Nat} {ow ow1 : Bool} : (D51 i k off a x0 x1 x2 x3 x4 x5 x6 x7 zs ws g g1 e1 ow ow1).fm = [(0, .var 0 g), (1, .slice 1 1 g1 off 128 none), (4, .var 2 0), (5, .int .i64 8), (23, .int .i64 i)] := by kernel_rfl
theorem D51_tab {i k : Int} {off a : Nat} {x0 x1 x2 x3 x4 x5 x6 x7 : Int} {zs ws : List Int} {g g1 e1 : Nat} {ow ow1 : Bool} : (D51 i k off a x0 x1 x2 x3 x4 x5 x6 x7 zs ws g g1 e1 ow ow1).tab = [some ⟨.agg [.int .i64 64, .int .i64 80, .int .i64 1, .int .i64 8, .int .i64 7, .int .i64 19, .int .i64 61, .int .i64 6, .int .i64 28, .int .i64 34, .int .i64 39, .int .i64 14, .int .i64 18, .int .i64 41,
 .int .u64 x0, .int .u64 x1, .int .u64 x2, .int .u64 x3, .int .u64 x4, .int .u64 x5, .int .u64 x6, .int .u64 x7], g, ow, 73⟩, some ⟨.ints .u8 zs, g1, ow1, e1⟩, some ⟨.ints .u64 ws, 0, true, 79⟩] := by kernel_rfl
noncomputable def E51 (t : Int) (x0 x1 x2 x3 x4 x5 x6 x7 : Int) (zs ws : List Int) (g g1 e1 : Nat) (ow ow1 : Bool) : Out := trim 3 3 [0,4,9] (run eV64 203 ⟨3, []⟩ 400 (roundOf 4 f51) [(0, .var 0 g), (4, .var 2 0), (9, .int .i64 t)] [some ⟨.agg [.int .i64 64, .int .i64 80, .int .i64 1, .int .i64 8, .int .i64 7, .int .i64 19, .int .i64 61, .int .i64 6, .int .i64 28, .int .i64 34, .int .i64 39, .int .i64 14, .int .i64 18, .int .i64 41, .int .u64 x0, .int .u64 x1, .int .u64 x2, .int .u64 x3, .int .u64 x4, .int .u64 x5, .int .u64 x6, .int .u64 x7], g, ow, 73⟩, some ⟨.ints .u8 zs, g1, ow1, e1⟩, some ⟨.ints .u64 ws, 0, true, 79⟩] [some true])
theorem E51_ok {t : Int} {x0 x1 x2 x3 x4 x5 x6 x7 : Int} {zs ws : List Int} {g g1 e1 : Nat} {ow ow1 : Bool} (h : allP [.eqN g g, .eqN g g, .eqN g g, .eqN g g, .p (decide (t < 80) = true), .rng (-9223372036854775808) (t - 2) 9223372036854775807, .leI 0 (t - 2), .leI (t - 2 + 1) 80, .leN ((t - 2).toNat + 1) ws.length, .eqN g g, .eqN g g, .eqN g g, .eqN g g, .eqN g g, .eqN g g, .p (0 ≤ ws.getD (t -
 2).toNat 0 ∧ ws.getD (t - 2).toNat 0 < 18446744073709551616), .p (low64Law [19, 61, 6]), .rng (-9223372036854775808) (t - 7) 9223372036854775807, .rng (-9223372036854775808) (t - 7) 9223372036854775807, .rng (-9223372036854775808) (t - 7) 9223372036854775807, .leI 0 (t - 7), .leI (t - 7 + 1) 80, .leI 0 (t - 7), .leI (t - 7 + 1) 80, .leI 0 (t - 7), .leI (t - 7 + 1) 80, .leN ((t - 7).toNat + 1)
 ws.length, .leN ((t - 7).toNat + 1) ws.length, .leN ((t - 7).toNat + 1) ws.length, .rng (-9223372036854775808) (t - 15) 9223372036854775807, .rng (-9223372036854775808) (t - 15) 9223372036854775807, .leI 0 (t - 15), .leI (t - 15 + 1) 80, .leI 0 (t - 15), .leI (t - 15 + 1) 80, .leN ((t - 15).toNat + 1) ws.length, .leN ((t - 15).toNat + 1) ws.length, .eqN g g, .eqN g g, .eqN g g, .eqN g g, .eqN g g,
 .eqN g g, .eqN g g, .eqN g g, .eqN g g, .eqN g g, .p (0 ≤ ws.getD (t - 15).toNat 0 ∧ ws.getD (t - 15).toNat 0 < 18446744073709551616), .p (low64Law [1, 8, 7]), .rng (-9223372036854775808) (t - 16) 9223372036854775807, .rng (-9223372036854775808) (t - 16) 9223372036854775807, .rng (-9223372036854775808) (t - 16) 9223372036854775807, .leI 0 (t - 16), .leI (t - 16 + 1) 80, .leI 0 (t - 16), .leI (t -
 16 + 1) 80, .leI 0 (t - 16), .leI (t - 16 + 1) 80, .leN ((t - 16).toNat + 1) ws.length, .leN ((t - 16).toNat + 1) ws.length, .leN ((t - 16).toNat + 1) ws.length, .leI 0 t, .leI (t + 1) 80, .leN (t.toNat + 1) ws.length, .rng (-9223372036854775808) (t + 1) 9223372036854775807]) : Ok (E51 t x0 x1 x2 x3 x4 x5 x6 x7 zs ws g g1 e1 ow ow1) := Ok.dem (fl := bitsF 124 3827577498163416572421203041007972368)
 (by kernel_rfl) (by kernel_rfl) (by kernel_rfl) h
theorem E51_ex {t : Int} {x0 x1 x2 x3 x4 x5 x6 x7 : Int} {zs ws : List Int} {g g1 e1 : Nat} {ow ow1 : Bool} : (E51 t x0 x1 x2 x3 x4 x5 x6 x7 zs ws g g1 e1 ow ow1).ex = .normal := by kernel_rfl
theorem E51_fm {t : Int} {x0 x1 x2 x3 x4 x5 x6 x7 : Int} {zs ws : List Int} {g g1 e1 : Nat} {ow ow1 : Bool} : (E51 t x0 x1 x2 x3 x4 x5 x6 x7 zs ws g g1 e1 ow ow1).fm = [(0, .var 0 g), (4, .var 2 0), (9, .int .i64 (t + 1))] := by kernel_rfl
theorem E51_tab {t : Int} {x0 x1 x2 x3 x4 x5 x6 x7 : Int} {zs ws : List Int} {g g1 e1 : Nat} {ow ow1 : Bool} : (E51 t x0 x1 x2 x3 x4 x5 x6 x7 zs ws g g1 e1 ow ow1).tab = [some ⟨.agg [.int .i64 64, .int .i64 80, .int .i64 1, .int .i64 8, .int .i64 7, .int .i64 19, .int .i64 61, .int .i64 6, .int .i64 28, .int .i64 34, .int .i64 39, .int .i64 14, .int .i64 18, .int .i64 41, .int .u64 x0, .int .u64
 x1, .int .u64 x2, .int .u64 x3, .int .u64 x4, .int .u64 x5, .int .u64 x6, .int .u64 x7], g, ow, 73⟩, some ⟨.ints .u8 zs, g1, ow1, e1⟩, some ⟨.ints .u64 (ws.set t.toNat ((((lowLaw 64 [19, 61, 6] (ws.getD (t - 2).toNat 0) + ws.getD (t - 7).toNat 0) % 18446744073709551616 + lowLaw 64 [1, 8, 7] (ws.getD (t - 15).toNat 0)) % 18446744073709551616 + ws.getD (t - 16).toNat 0) % 18446744073709551616)), 0,
 true, 79⟩] := by kernel_rfl
noncomputable def F51 (t : Int) (x0 x1 x2 x3 x4 x5 x6 x7 : Int) (zs ws : List Int) (g g1 e1 : Nat) (ow ow1 : Bool) : Out := trim 3 3 [0,4] (run eV64 203 ⟨3, []⟩ 400 (roundOf 4 f51) [(0, .var 0 g), (4, .var 2 0), (9, .int .i64 t)] [some ⟨.agg [.int .i64 64, .int .i64 80, .int .i64 1, .int .i64 8, .int .i64 7, .int .i64 19, .int .i64 61, .int .i64 6, .int .i64 28, .int .i64 34, .int .i64 39, .int .i64 14, .int .i64 18, .int .i64 41, .int .u64 x0, .int .u64 x1, .int .u64 x2, .int .u64 x3, .int .u64 x4, .int .u64 x5, .int .u64 x6, .int .u64 x7], g, ow, 73⟩, some ⟨.ints .u8 zs, g1, ow1, e1⟩, some ⟨.ints .u64 ws, 0, true, 79⟩] [some false])
theorem F51_ok {t : Int} {x0 x1 x2 x3 x4 x5 x6 x7 : Int} {zs ws : List Int} {g g1 e1 : Nat} {ow ow1 : Bool} (h : allP [.eqN g g, .eqN g g, .eqN g g, .eqN g g, .p (decide (t < 80) = false)]) : Ok (F51 t x0 x1 x2 x3 x4 x5 x6 x7 zs ws g g1 e1 ow ow1) := Ok.dem (fl := [false, false, false, false, true, false]) (by kernel_rfl) (by kernel_rfl) (by kernel_rfl) h
theorem F51_ex {t : Int} {x0 x1 x2 x3 x4 x5 x6 x7 : Int} {zs ws : List Int} {g g1 e1 : Nat} {ow ow1 : Bool} : (F51 t x0 x1 x2 x3 x4 x5 x6 x7 zs ws g g1 e1 ow ow1).ex = .exit 4 := by kernel_rfl
theorem F51_fm {t : Int} {x0 x1 x2 x3 x4 x5 x6 x7 : Int} {zs ws : List Int} {g g1 e1 : Nat} {ow ow1 : Bool} : (F51 t x0 x1 x2 x3 x4 x5 x6 x7 zs ws g g1 e1 ow ow1).fm = [(0, .var 0 g), (4, .var 2 0)] := by kernel_rfl
theorem F51_tab {t : Int} {x0 x1 x2 x3 x4 x5 x6 x7 : Int} {zs ws : List Int} {g g1 e1 : Nat} {ow ow1 : Bool} : (F51 t x0 x1 x2 x3 x4 x5 x6 x7 zs ws g g1 e1 ow ow1).tab = [some ⟨.agg [.int .i64 64, .int .i64 80, .int .i64 1, .int .i64 8, .int .i64 7, .int .i64 19, .int .i64 61, .int .i64 6, .int .i64 28, .int .i64 34, .int .i64 39, .int .i64 14, .int .i64 18, .int .i64 41, .int .u64 x0, .int .u64
 x1, .int .u64 x2, .int .u64 x3, .int .u64 x4, .int .u64 x5, .int .u64 x6, .int .u64 x7], g, ow, 73⟩, some ⟨.ints .u8 zs, g1, ow1, e1⟩, some ⟨.ints .u64 ws, 0, true, 79⟩] := by kernel_rfl
noncomputable def G51 (t y0 y1 y2 y3 y4 y5 y6 y7 : Int) (x0 x1 x2 x3 x4 x5 x6 x7 : Int) (zs ws : List Int) (g g1 e1 : Nat) (ow ow1 : Bool) : Out := trim 4 4 [0,4,10,104,105] (run eV64 203 ⟨4, []⟩ 400 (roundOf 6 f51) [(0, .var 0 g), (4, .var 2 0), (10, .var 3 0), (104, .int .i64 80), (105, .int .i64 t)] [some ⟨.agg [.int .i64 64, .int .i64 80, .int .i64 1, .int .i64 8, .int .i64 7, .int .i64 19, .int .i64 61, .int .i64 6, .int .i64 28, .int .i64 34, .int .i64 39, .int .i64 14, .int .i64 18, .int .i64 41, .int .u64 x0, .int .u64 x1, .int .u64 x2, .int .u64 x3, .int .u64 x4, .int .u64 x5, .int .u64 x6, .int .u64 x7], g, ow, 73⟩, some ⟨.ints .u8 zs, g1, ow1, e1⟩, some ⟨.ints .u64 ws, 0, true, 79⟩, some ⟨.agg [.int .u64 y0, .int .u64 y1, .int .u64 y2, .int .u64 y3, .int .u64 y4, .int .u64 y5, .int .u64 y6, .int .u64 y7], 0, true, 71⟩] [some true])
theorem G51_ok {t y0 y1 y2 y3 y4 y5 y6 y7 : Int} {x0 x1 x2 x3 x4 x5 x6 x7 : Int} {zs ws : List Int} {g g1 e1 : Nat} {ow ow1 : Bool} (h : allP [.p (decide (t < 80) = true), .eqN g g, .eqN g g, .eqN g g, .eqN g g, .eqN g g, .eqN g g, .p (0 ≤ y4 ∧ y4 < 18446744073709551616), .p (high64Law [14, 18, 41]), .nn .u64 y4, .nn .u64 y5, .nn .u64 y4, .nn .u64 y5, .nn .u64 y4, .nn .u64 y4, .nn .u64
 (18446744073709551615 - y4), .nn .u64 y6, .nn .u64 (18446744073709551615 - y4), .nn .u64 y6, .nn .u64 (iand y4 y5), .nn .u64 (iand (18446744073709551615 - y4) y6), .nn .u64 (iand y4 y5), .nn .u64 (iand (18446744073709551615 - y4) y6), .leI 0 t, .leI (t + 1) 80, .leI 0 t, .leI (t + 1) 80, .leN (t.toNat + 1) 80, .leN (t.toNat + 1) 80, .eqN g g, .eqN g g, .eqN g g, .eqN g g, .eqN g g, .eqN g g, .eqN g
 g, .eqN g g, .leI 0 t, .leI (t + 1) 80, .leI 0 t, .leI (t + 1) 80, .leN (t.toNat + 1) ws.length, .leN (t.toNat + 1) ws.length, .eqN g g, .eqN g g, .eqN g g, .eqN g g, .eqN g g, .eqN g g, .p (0 ≤ y0 ∧ y0 < 18446744073709551616), .p (high64Law [28, 34, 39]), .nn .u64 y0, .nn .u64 y1, .nn .u64 y0, .nn .u64 y1, .nn .u64 y0, .nn .u64 y2, .nn .u64 y0, .nn .u64 y2, .nn .u64 (iand y0 y1), .nn .u64 (iand y0
 y2), .nn .u64 (iand y0 y1), .nn .u64 (iand y0 y2), .nn .u64 y1, .nn .u64 y2, .nn .u64 y1, .nn .u64 y2, .nn .u64 (ixor (iand y0 y1) (iand y0 y2)), .nn .u64 (iand y1 y2), .nn .u64 (ixor (iand y0 y1) (iand y0 y2)), .nn .u64 (iand y1 y2), .rng (-9223372036854775808) (t + 1) 9223372036854775807]) : Ok (G51 t y0 y1 y2 y3 y4 y5 y6 y7 x0 x1 x2 x3 x4 x5 x6 x7 zs ws g g1 e1 ow ow1) := Ok.dem (fl := bitsF 245
 28269526075684924383589872540469326343008617137590726615550313945693155324) (by kernel_rfl) (by kernel_rfl) (by kernel_rfl) h
theorem G51_ex {t y0 y1 y2 y3 y4 y5 y6 y7 : Int} {x0 x1 x2 x3 x4 x5 x6 x7 : Int} {zs ws : List Int} {g g1 e1 : Nat} {ow ow1 : Bool} : (G51 t y0 y1 y2 y3 y4 y5 y6 y7 x0 x1 x2 x3 x4 x5 x6 x7 zs ws g g1 e1 ow ow1).ex = .normal := by kernel_rfl
theorem G51_fm {t y0 y1 y2 y3 y4 y5 y6 y7 : Int} {x0 x1 x2 x3 x4 x5 x6 x7 : Int} {zs ws : List Int} {g g1 e1 : Nat} {ow ow1 : Bool} : (G51 t y0 y1 y2 y3 y4 y5 y6 y7 x0 x1 x2 x3 x4 x5 x6 x7 zs ws g g1 e1 ow ow1).fm = [(0, .var 0 g), (4, .var 2 0), (10, .var 3 0), (104, .int .i64 80), (105, .int .i64 (t + 1))] := by kernel_rfl
theorem G51_tab {t y0 y1 y2 y3 y4 y5 y6 y7 : Int} {x0 x1 x2 x3 x4 x5 x6 x7 : Int} {zs ws : List Int} {g g1 e1 : Nat} {ow ow1 : Bool} : (G51 t y0 y1 y2 y3 y4 y5 y6 y7 x0 x1 x2 x3 x4 x5 x6 x7 zs ws g g1 e1 ow ow1).tab = [some ⟨.agg [.int .i64 64, .int .i64 80, .int .i64 1, .int .i64 8, .int .i64 7, .int .i64 19, .int .i64 61, .int .i64 6, .int .i64 28, .int .i64 34, .int .i64 39, .int .i64 14, .int
 .i64 18, .int .i64 41, .int .u64 x0, .int .u64 x1, .int .u64 x2, .int .u64 x3, .int .u64 x4, .int .u64 x5, .int .u64 x6, .int .u64 x7], g, ow, 73⟩, some ⟨.ints .u8 zs, g1, ow1, e1⟩, some ⟨.ints .u64 ws, 0, true, 79⟩, some ⟨.agg [.int .u64 ((((((y7 + highLaw 64 [14, 18, 41] y4) % 18446744073709551616 + ixor (iand y4 y5) (iand (18446744073709551615 - y4) y6)) % 18446744073709551616 + cubesLaw.getD
 t.toNat 0 / 1) % 18446744073709551616 + ws.getD t.toNat 0) % 18446744073709551616 + (highLaw 64 [28, 34, 39] y0 + ixor (ixor (iand y0 y1) (iand y0 y2)) (iand y1 y2)) % 18446744073709551616) % 18446744073709551616), .int .u64 y0, .int .u64 y1, .int .u64 y2, .int .u64 ((y3 + ((((y7 + highLaw 64 [14, 18, 41] y4) % 18446744073709551616 + ixor (iand y4 y5) (iand (18446744073709551615 - y4) y6)) %
 18446744073709551616 + cubesLaw.getD t.toNat 0 / 1) % 18446744073709551616 + ws.getD t.toNat 0) % 18446744073709551616) % 18446744073709551616), .int .u64 y4, .int .u64 y5, .int .u64 y6], 0, true, 71⟩] := by kernel_rfl
noncomputable def H51 (t y0 y1 y2 y3 y4 y5 y6 y7 : Int) (x0 x1 x2 x3 x4 x5 x6 x7 : Int) (zs ws : List Int) (g g1 e1 : Nat) (ow ow1 : Bool) : Out := trim 4 4 [0,10] (run eV64 203 ⟨4, []⟩ 400 (roundOf 6 f51) [(0, .var 0 g), (4, .var 2 0), (10, .var 3 0), (104, .int .i64 80), (105, .int .i64 t)] [some ⟨.agg [.int .i64 64, .int .i64 80, .int .i64 1, .int .i64 8, .int .i64 7, .int .i64 19, .int .i64 61, .int .i64 6, .int .i64 28, .int .i64 34, .int .i64 39, .int .i64 14, .int .i64 18, .int .i64 41, .int .u64 x0, .int .u64 x1, .int .u64 x2, .int .u64 x3, .int .u64 x4, .int .u64 x5, .int .u64 x6, .int .u64 x7], g, ow, 73⟩, some ⟨.ints .u8 zs, g1, ow1, e1⟩, some ⟨.ints .u64 ws, 0, true, 79⟩, some ⟨.agg [.int .u64 y0, .int .u64 y1, .int .u64 y2, .int .u64 y3, .int .u64 y4, .int .u64 y5, .int .u64 y6, .int .u64 y7], 0, true, 71⟩] [some false])
theorem H51_ok {t y0 y1 y2 y3 y4 y5 y6 y7 : Int} {x0 x1 x2 x3 x4 x5 x6 x7 : Int} {zs ws : List Int} {g g1 e1 : Nat} {ow ow1 : Bool} (h : allP [.p (decide (t < 80) = false)]) : Ok (H51 t y0 y1 y2 y3 y4 y5 y6 y7 x0 x1 x2 x3 x4 x5 x6 x7 zs ws g g1 e1 ow ow1) := Ok.dem (fl := [false]) (by kernel_rfl) (by kernel_rfl) (by kernel_rfl) h
theorem H51_ex {t y0 y1 y2 y3 y4 y5 y6 y7 : Int} {x0 x1 x2 x3 x4 x5 x6 x7 : Int} {zs ws : List Int} {g g1 e1 : Nat} {ow ow1 : Bool} : (H51 t y0 y1 y2 y3 y4 y5 y6 y7 x0 x1 x2 x3 x4 x5 x6 x7 zs ws g g1 e1 ow ow1).ex = .exit 6 := by kernel_rfl
theorem H51_fm {t y0 y1 y2 y3 y4 y5 y6 y7 : Int} {x0 x1 x2 x3 x4 x5 x6 x7 : Int} {zs ws : List Int} {g g1 e1 : Nat} {ow ow1 : Bool} : (H51 t y0 y1 y2 y3 y4 y5 y6 y7 x0 x1 x2 x3 x4 x5 x6 x7 zs ws g g1 e1 ow ow1).fm = [(0, .var 0 g), (10, .var 3 0)] := by kernel_rfl
theorem H51_tab {t y0 y1 y2 y3 y4 y5 y6 y7 : Int} {x0 x1 x2 x3 x4 x5 x6 x7 : Int} {zs ws : List Int} {g g1 e1 : Nat} {ow ow1 : Bool} : (H51 t y0 y1 y2 y3 y4 y5 y6 y7 x0 x1 x2 x3 x4 x5 x6 x7 zs ws g g1 e1 ow ow1).tab = [some ⟨.agg [.int .i64 64, .int .i64 80, .int .i64 1, .int .i64 8, .int .i64 7, .int .i64 19, .int .i64 61, .int .i64 6, .int .i64 28, .int .i64 34, .int .i64 39, .int .i64 14, .int
 .i64 18, .int .i64 41, .int .u64 x0, .int .u64 x1, .int .u64 x2, .int .u64 x3, .int .u64 x4, .int .u64 x5, .int .u64 x6, .int .u64 x7], g, ow, 73⟩, some ⟨.ints .u8 zs, g1, ow1, e1⟩, some ⟨.ints .u64 ws, 0, true, 79⟩, some ⟨.agg [.int .u64 y0, .int .u64 y1, .int .u64 y2, .int .u64 y3, .int .u64 y4, .int .u64 y5, .int .u64 y6, .int .u64 y7], 0, true, 71⟩] := by kernel_rfl
end Go.Abs

set_option linter.unusedVariables false
set_option linter.unusedSimpArgs false
set_option maxRecDepth 8000
namespace Go.Abs
open Go.Proofs Go.Proofs.Tryd
theorem ior_add8 {a b : Int} (ha : 0 ≤ a) (hb : 0 ≤ b ∧ b < 256) : ior (a * 256) b = a * 256 + b := by
  obtain ⟨n, rfl⟩ := Int.eq_ofNat_of_zero_le ha
  obtain ⟨m, rfl⟩ := Int.eq_ofNat_of_zero_le hb.1
  have hm : m < 2 ^ 8 := by omega
  have h := Nat.two_pow_add_eq_or_of_lt hm n
  unfold ior
  rw [show ((n : Int) * 256).toNat = 2 ^ 8 * n by omega, Int.toNat_natCast, ← h]
  omega
theorem wdLaw_rng {bs : List Int} (hb : ∀ i, 0 ≤ bs.getD i 0 ∧ bs.getD i 0 < 256) (a : Nat) : ∀ k, 0 ≤ wdLaw bs a k ∧ wdLaw bs a k < 256 ^ k
  | 0 => by simp [wdLaw]
  | k + 1 => by
    have h := wdLaw_rng hb a k
    have h2 := hb (a + k)
    rw [wdLaw, Int.pow_succ]
    omega
theorem arrLaw_len {n : Nat} {bs : List Int} {a i k : Nat} (hi : i < 16) : (arrLaw n bs a i k).length = 80 := by simp [arrLaw, wordsLaw_len]; omega
theorem arrLaw_get {n : Nat} {bs : List Int} {a i k : Nat} : (arrLaw n bs a i k).getD i 0 = wdLaw bs (a + n * i) k := by
  unfold arrLaw
  rw [List.getD_eq_getElem?_getD, List.getElem?_append_right (by rw [wordsLaw_len]; exact Nat.le_refl _), wordsLaw_len, Nat.sub_self]; rfl
theorem arrLaw_set {n : Nat} {bs : List Int} {a i k : Nat} {v : Int} : (arrLaw n bs a i k).set i v = wordsLaw n bs a i ++ v :: List.replicate (79 - i) 0 := by
  unfold arrLaw
  rw [List.set_append, if_neg (by rw [wordsLaw_len]; omega), wordsLaw_len, Nat.sub_self]; rfl
theorem arrLaw_next {n : Nat} {bs : List Int} {a i : Nat} (hi : i < 79) : arrLaw n bs a i n = arrLaw n bs a (i + 1) 0 := by
  unfold arrLaw
  rw [wordsLaw_succ, List.append_assoc, show 79 - i = (79 - (i + 1)) + 1 by omega]
  rfl
theorem arrLaw_end (n : Nat) (bs : List Int) (a : Nat) : arrLaw n bs a 15 n = wordsLaw n bs a 16 ++ List.replicate 64 0 := by
  rw [arrLaw_next (by omega)]; rfl
theorem cubes_rng : ∀ t, 0 ≤ cubesLaw.getD t 0 ∧ cubesLaw.getD t 0 < 18446744073709551616 := by
  have h : ((List.range 80).all fun i => decide (0 ≤ cubesLaw.getD i 0) && decide (cubesLaw.getD i 0 < 18446744073709551616)) = true := by kernel_rfl
  intro t
  rcases Nat.lt_or_ge t 80 with ht | ht
  · simpa using List.all_eq_true.1 h t (List.mem_range.2 ht)
  · rw [List.getD_eq_getElem?_getD, List.getElem?_eq_none (by rw [show cubesLaw.length = 80 by kernel_rfl]; omega)]; decide
theorem list8 {l : List Int} (h : l.length = 8) : ∃ a0 a1 a2 a3 a4 a5 a6 a7, l = [a0, a1, a2, a3, a4, a5, a6, a7] := by
  match l, h with
  | [a0, a1, a2, a3, a4, a5, a6, a7], _ => exact ⟨a0, a1, a2, a3, a4, a5, a6, a7, rfl⟩
theorem Wds.cons {W : Nat} {a : Int} {l : List Int} (ha : Wd W a) (hl : Wds W l) : Wds W (a :: l) := fun i => match i with
  | 0 => ha
  | i + 1 => hl i
theorem Wds.nil (W : Nat) : Wds W [] := fun i => Wd.zero W
theorem rnds_len {W : Nat} {m : Int} {u0 u1 ws x : List Int} (h : x.length = 8) : ∀ t, (rndsLaw W m u0 u1 ws x t).length = 8
  | 0 => h
  | t + 1 => rfl
theorem rnds_wds {W : Nat} {m : Int} (hm : m = 2 ^ W) {u0 u1 ws x : List Int} (h : Wds W x) : ∀ t, Wds W (rndsLaw W m u0 u1 ws x t)
  | 0 => h
  | t + 1 => by
    have hx := rnds_wds hm h (u0 := u0) (u1 := u1) (ws := ws) t
    have hmod : ∀ y : Int, Wd W (y % m) := fun y => by rw [hm]; exact Wd.mod _ _
    exact .cons (hmod _) (.cons (hx 0) (.cons (hx 1) (.cons (hx 2) (.cons (hmod _) (.cons (hx 4) (.cons (hx 5) (.cons (hx 6) (.nil W))))))))
/-! width 32 -/
def FA45 (g g1 off i a : Nat) (k : Nat) : Fm := [(0, .var 0 g), (1, .slice 1 1 g1 off 64 none), (4, .var 2 0), (5, .int .i64 4), (6, .int .i64 i), (23, .int .i64 i), (35, .slice 1 1 g1 a 4 none), (36, .int .i64 4), (37, .int .i64 k)]
def TA45 (x0 x1 x2 x3 x4 x5 x6 x7 : Int) (zs : List Int) (g g1 e1 : Nat) (ow ow1 : Bool) (ws : List Int) : Tab := [some ⟨.agg [.int .i64 32, .int .i64 64, .int .i64 7, .int .i64 18, .int .i64 3, .int .i64 17, .int .i64 19, .int .i64 10, .int .i64 2, .int .i64 13, .int .i64 22, .int .i64 6, .int .i64 11, .int .i64 25, .int .u32 x0, .int .u32 x1, .int .u32 x2, .int .u32 x3, .int .u32 x4, .int .u32 x5, .int .u32 x6, .int .u32 x7], g, ow, 64⟩, some ⟨.ints .u8 zs, g1, ow1, e1⟩, some ⟨.ints .u32 ws, 0, true, 77⟩]
theorem loopA45 {x0 x1 x2 x3 x4 x5 x6 x7 : Int} {zs : List Int} {g g1 e1 : Nat} {ow ow1 : Bool} {off i : Nat} (hi : i < 16) (hz : off + 64 ≤ zs.length) (hb : ∀ i, 0 ≤ zs.getD i 0 ∧ zs.getD i 0 < 256) :
    To eV32 204 3 (.block 2 (.loop (roundOf 2 f45))) (FA45 g g1 off i (off + 4 * i) 0) (TA45 x0 x1 x2 x3 x4 x5 x6 x7 zs g g1 e1 ow ow1 (arrLaw 4 zs off i 0)) .normal [(0, .var 0 g), (1, .slice 1 1 g1 off 64 none), (4, .var 2 0), (5, .int .i64 4), (23, .int .i64 i)] (TA45 x0 x1 x2 x3 x4 x5 x6 x7 zs g g1 e1 ow ow1 (arrLaw 4 zs off i 4)) := by
  refine To.rounds (FA45 g g1 off i (off + 4 * i)) (fun k => TA45 x0 x1 x2 x3 x4 x5 x6 x7 zs g g1 e1 ow ow1 (arrLaw 4 zs off i k)) 4 (fun k hk => ?_)
    (To.of (o := D45 i (4 : Nat) off (off + 4 * i) x0 x1 x2 x3 x4 x5 x6 x7 zs (arrLaw 4 zs off i 4) g g1 e1 ow ow1) eV32_ok hmS (Nat.le_refl 3) OrcOk.nil rfl (D45_ok (by simp [allP, Con.h])) D45_ex D45_fm D45_tab)
  have hl := arrLaw_len (n := 4) (bs := zs) (a := off) (k := k) hi
  have hw := wdLaw_rng hb (off + 4 * i) k
  have hq := hb (off + 4 * i + k)
  have hp : (256 : Int) ^ k * 256 ≤ 4294967296 := by
    have : ∀ k, k < 4 → (256 : Int) ^ k * 256 ≤ 4294967296 := by decide
    exact this k hk
  have hmul : 0 ≤ wdLaw zs (off + 4 * i) k * 256 ∧ wdLaw zs (off + 4 * i) k * 256 < 4294967296 := by
    generalize (256 : Int) ^ k = p at hp hw; omega
  have hmd : wdLaw zs (off + 4 * i) k * 256 % 4294967296 = wdLaw zs (off + 4 * i) k * 256 := Int.emod_eq_of_lt hmul.1 hmul.2
  refine To.of (o := C45 i k off (off + 4 * i) x0 x1 x2 x3 x4 x5 x6 x7 zs (arrLaw 4 zs off i k) g g1 e1 ow ow1) eV32_ok hmS (Nat.le_refl 3) OrcOk.nil rfl (C45_ok ?_) C45_ex (by rw [C45_fm]; rfl) ?_
  · simp only [addO_eq, Int.toNat_natCast, arrLaw_get, hmd]
    have n1 : nonneg .u32 (wdLaw zs (off + 4 * i) k * 256) := hmul
    have n2 : nonneg .u32 (zs.getD (off + 4 * i + k) 0) := ⟨hq.1, by have := hq.2; show _ < (4294967296 : Int); omega⟩
    simp only [allP, Con.h, hl, n1, n2, decide_eq_true_eq, eq_self, true_and, and_true]
    omega
  · rw [C45_tab]
    simp only [addO_eq, Int.toNat_natCast, arrLaw_get, hmd, arrLaw_set]
    rw [ior_add8 hw.1 hq]
    rfl
/-! width 64 -/
def FA51 (g g1 off i a : Nat) (k : Nat) : Fm := [(0, .var 0 g), (1, .slice 1 1 g1 off 128 none), (4, .var 2 0), (5, .int .i64 8), (6, .int .i64 i), (23, .int .i64 i), (35, .slice 1 1 g1 a 8 none), (36, .int .i64 8), (37, .int .i64 k)]
def TA51 (x0 x1 x2 x3 x4 x5 x6 x7 : Int) (zs : List Int) (g g1 e1 : Nat) (ow ow1 : Bool) (ws : List Int) : Tab := [some ⟨.agg [.int .i64 64, .int .i64 80, .int .i64 1, .int .i64 8, .int .i64 7, .int .i64 19, .int .i64 61, .int .i64 6, .int .i64 28, .int .i64 34, .int .i64 39, .int .i64 14, .int .i64 18, .int .i64 41, .int .u64 x0, .int .u64 x1, .int .u64 x2, .int .u64 x3, .int .u64 x4, .int .u64 x5, .int .u64 x6, .int .u64 x7], g, ow, 73⟩, some ⟨.ints .u8 zs, g1, ow1, e1⟩, some ⟨.ints .u64 ws, 0, true, 79⟩]
theorem loopA51 {x0 x1 x2 x3 x4 x5 x6 x7 : Int} {zs : List Int} {g g1 e1 : Nat} {ow ow1 : Bool} {off i : Nat} (hi : i < 16) (hz : off + 128 ≤ zs.length) (hb : ∀ i, 0 ≤ zs.getD i 0 ∧ zs.getD i 0 < 256) :
    To eV64 203 3 (.block 2 (.loop (roundOf 2 f51))) (FA51 g g1 off i (off + 8 * i) 0) (TA51 x0 x1 x2 x3 x4 x5 x6 x7 zs g g1 e1 ow ow1 (arrLaw 8 zs off i 0)) .normal [(0, .var 0 g), (1, .slice 1 1 g1 off 128 none), (4, .var 2 0), (5, .int .i64 8), (23, .int .i64 i)] (TA51 x0 x1 x2 x3 x4 x5 x6 x7 zs g g1 e1 ow ow1 (arrLaw 8 zs off i 8)) := by
  refine To.rounds (FA51 g g1 off i (off + 8 * i)) (fun k => TA51 x0 x1 x2 x3 x4 x5 x6 x7 zs g g1 e1 ow ow1 (arrLaw 8 zs off i k)) 8 (fun k hk => ?_)
    (To.of (o := D51 i (8 : Nat) off (off + 8 * i) x0 x1 x2 x3 x4 x5 x6 x7 zs (arrLaw 8 zs off i 8) g g1 e1 ow ow1) eV64_ok hmS (Nat.le_refl 3) OrcOk.nil rfl (D51_ok (by simp [allP, Con.h])) D51_ex D51_fm D51_tab)
  have hl := arrLaw_len (n := 8) (bs := zs) (a := off) (k := k) hi
  have hw := wdLaw_rng hb (off + 8 * i) k
  have hq := hb (off + 8 * i + k)
  have hp : (256 : Int) ^ k * 256 ≤ 18446744073709551616 := by
    have : ∀ k, k < 8 → (256 : Int) ^ k * 256 ≤ 18446744073709551616 := by decide
    exact this k hk
  have hmul : 0 ≤ wdLaw zs (off + 8 * i) k * 256 ∧ wdLaw zs (off + 8 * i) k * 256 < 18446744073709551616 := by
    generalize (256 : Int) ^ k = p at hp hw; omega
  have hmd : wdLaw zs (off + 8 * i) k * 256 % 18446744073709551616 = wdLaw zs (off + 8 * i) k * 256 := Int.emod_eq_of_lt hmul.1 hmul.2
  refine To.of (o := C51 i k off (off + 8 * i) x0 x1 x2 x3 x4 x5 x6 x7 zs (arrLaw 8 zs off i k) g g1 e1 ow ow1) eV64_ok hmS (Nat.le_refl 3) OrcOk.nil rfl (C51_ok ?_) C51_ex (by rw [C51_fm]; rfl) ?_
  · simp only [addO_eq, Int.toNat_natCast, arrLaw_get, hmd]
    have n1 : nonneg .u64 (wdLaw zs (off + 8 * i) k * 256) := hmul
    have n2 : nonneg .u64 (zs.getD (off + 8 * i + k) 0) := ⟨hq.1, by have := hq.2; show _ < (18446744073709551616 : Int); omega⟩
    simp only [allP, Con.h, hl, n1, n2, decide_eq_true_eq, eq_self, true_and, and_true]
    omega
  · rw [C51_tab]
    simp only [addO_eq, Int.toNat_natCast, arrLaw_get, hmd, arrLaw_set]
    rw [ior_add8 hw.1 hq]
    rfl
end Go.Abs

set_option linter.unusedVariables false
set_option linter.unusedSimpArgs false
set_option maxRecDepth 8000
namespace Go.Abs
open Go.Proofs Go.Proofs.Tryd
def BsLaw (zs : List Int) : Prop := ∀ i, 0 ≤ zs.getD i 0 ∧ zs.getD i 0 < 256
def WdsLaw (W : Nat) (l : List Int) : Prop := Wds W l
def wsLaw (W : Nat) (m : Int) (l0 l1 : List Int) (R : Nat) (ws : List Int) : List Int := schLaw W m l0 l1 (ws.take 16) (R - 16) ++ List.replicate (80 - R) 0
def tailLaw (ws : List Int) : Prop := ws.length = 80 ∧ ws.drop 16 = List.replicate 64 0
def rndAtLaw (W : Nat) (m : Int) (u0 u1 ws x : List Int) (R j : Nat) : Int := (rndsLaw W m u0 u1 ws x R).getD j 0
theorem c32 (t : Nat) : cubesLaw.getD t 0 / 4294967296 % 4294967296 = cLaw 32 t := by
  have h := cubes_rng t
  unfold cLaw
  rw [show (2 : Int) ^ (64 - 32) = 4294967296 by decide]
  omega
theorem c64 (t : Nat) : cubesLaw.getD t 0 / 1 = cLaw 64 t := by
  unfold cLaw
  rw [show (2 : Int) ^ (64 - 64) = 1 by decide]
def gA45 : List AVal → Tab → Out := fun vs T => match vs, T with
  | [.var 0 g', .slice 1 1 g1' off 64 none, .var 2 0, .int .i64 c, .int .i64 i, .int .i64 j, .slice 1 1 g2' a mm none, .int .i64 m, .int .i64 k], [some ⟨.agg [.int .i64 32, .int .i64 64, .int .i64 7, .int .i64 18, .int .i64 3, .int .i64 17, .int .i64 19, .int .i64 10, .int .i64 2, .int .i64 13, .int .i64 22, .int .i64 6, .int .i64 11, .int .i64 25, .int .u32 x0, .int .u32 x1, .int .u32 x2, .int .u32 x3, .int .u32 x4, .int .u32 x5, .int .u32 x6, .int .u32 x7], g, ow, 64⟩, some ⟨.ints .u8 zs, g1, ow1, e1⟩, some ⟨.ints .u32 ws, 0, true, 77⟩] =>
    ⟨[.eqN g' g, .eqN g1' g1, .eqN g2' g1, .rng 4 c 4, .rng 0 i 15, .rng i j i, .p (a = off + 4 * i.toNat), .eqN mm 4, .rng 4 m 4, .rng 0 k 0, .leN (off + 64) zs.length, .p (BsLaw zs), .p (ws = arrLaw 4 zs off i.toNat 0)], .normal,
      [(0, .var 0 g), (1, .slice 1 1 g1 off 64 none), (4, .var 2 0), (5, .int .i64 4), (23, .int .i64 i)], [some ⟨.agg [.int .i64 32, .int .i64 64, .int .i64 7, .int .i64 18, .int .i64 3, .int .i64 17, .int .i64 19, .int .i64 10, .int .i64 2, .int .i64 13, .int .i64 22, .int .i64 6, .int .i64 11, .int .i64 25, .int .u32 x0, .int .u32 x1, .int .u32 x2, .int .u32 x3, .int .u32 x4, .int .u32 x5, .int .u32 x6, .int .u32 x7], g, ow, 64⟩, some ⟨.ints .u8 zs, g1, ow1, e1⟩, some ⟨.ints .u32 (arrLaw 4 zs off i.toNat 4), 0, true, 77⟩], []⟩
  | _, _ => failO
theorem gA45_ok : BlkOk eV32 f45 2 (.loop (roundOf 2 f45)) (blkS 3 [0,1,4,5,6,23,35,36,37] gA45) := by
  refine blkS_ok fun vs T h => ?_
  unfold gA45 at h ⊢
  split at h
  · rename_i g' g1' off c i j g2' a mm m k x0 x1 x2 x3 x4 x5 x6 x7 g ow zs g1 ow1 e1 ws
    obtain ⟨h1, h2, h3, h4, h5, h6, h7, h8, h9, h10, h11, h12, h13, _⟩ := h.h
    simp only [Con.h] at h1 h2 h3 h4 h5 h6 h7 h8 h9 h10 h11 h12 h13
    obtain rfl : c = 4 := by omega
    obtain rfl : m = 4 := by omega
    obtain rfl : k = 0 := by omega
    obtain ⟨q, rfl⟩ : ∃ q : Nat, i = q := ⟨i.toNat, by omega⟩
    obtain rfl : j = (q : Int) := by omega
    rw [Int.toNat_natCast] at h7 h13
    subst h1 h2 h3 h7 h8 h13
    exact loopA45 (by omega) h11 h12
  · exact absurd h nofailO
def FB45 (g : Nat) (t : Int) : Fm := [(0, .var 0 g), (4, .var 2 0), (9, .int .i64 t)]
theorem loopB45 {x0 x1 x2 x3 x4 x5 x6 x7 : Int} {zs : List Int} {g g1 e1 : Nat} {ow ow1 : Bool} {ws : List Int} (hl : ws.length = 16) (hw : Wds 32 ws) :
    To eV32 204 3 (.block 4 (.loop (roundOf 4 f45))) (FB45 g 16) (TA45 x0 x1 x2 x3 x4 x5 x6 x7 zs g g1 e1 ow ow1 (ws ++ List.replicate 64 0)) .normal [(0, .var 0 g), (4, .var 2 0)] (TA45 x0 x1 x2 x3 x4 x5 x6 x7 zs g g1 e1 ow ow1 (schLaw 32 4294967296 [7, 18, 3] [17, 19, 10] ws 48 ++ List.replicate 16 0)) := by
  refine To.rounds (fun i : Nat => FB45 g (16 + i : Nat)) (fun i => TA45 x0 x1 x2 x3 x4 x5 x6 x7 zs g g1 e1 ow ow1 (schLaw 32 4294967296 [7, 18, 3] [17, 19, 10] ws i ++ List.replicate (64 - i) 0)) 48 (fun i hi => ?_)
    (To.of (o := F45 (64 : Nat) x0 x1 x2 x3 x4 x5 x6 x7 zs (schLaw 32 4294967296 [7, 18, 3] [17, 19, 10] ws 48 ++ List.replicate 16 0) g g1 e1 ow ow1) eV32_ok hmS (Nat.le_refl 3) OrcOk.nil rfl (F45_ok (by simp [allP, Con.h])) F45_ex F45_fm F45_tab)
  have hsl := schLaw_len (W := 32) (m := 4294967296) (l0 := [7, 18, 3]) (l1 := [17, 19, 10]) hl i
  have hsw := schLaw_wds (W := 32) (m := 4294967296) (by decide) (l0 := [7, 18, 3]) (l1 := [17, 19, 10]) hw i
  have hall : (schLaw 32 4294967296 [7, 18, 3] [17, 19, 10] ws i ++ List.replicate (64 - i) 0).length = 80 := by rw [List.length_append, hsl, List.length_replicate]; omega
  have e2 : (((16 + i : Nat) : Int) - 2).toNat = 16 + i - 2 := by omega
  have e7 : (((16 + i : Nat) : Int) - 7).toNat = 16 + i - 7 := by omega
  have e15 : (((16 + i : Nat) : Int) - 15).toNat = 16 + i - 15 := by omega
  have e16 : (((16 + i : Nat) : Int) - 16).toNat = 16 + i - 16 := by omega
  refine To.of (o := E45 (16 + i : Nat) x0 x1 x2 x3 x4 x5 x6 x7 zs (schLaw 32 4294967296 [7, 18, 3] [17, 19, 10] ws i ++ List.replicate (64 - i) 0) g g1 e1 ow ow1) eV32_ok hmS (Nat.le_refl 3) OrcOk.nil rfl (E45_ok ?_) E45_ex (by rw [E45_fm]; rfl) ?_
  · rw [e2, e7, e15, e16]
    have q2 := hsw (16 + i - 2)
    have q15 := hsw (16 + i - 15)
    simp only [allP, Con.h, getD_left (b := List.replicate (64 - i) 0) (show 16 + i - 2 < _ by rw [hsl]; omega), getD_left (b := List.replicate (64 - i) 0) (show 16 + i - 15 < _ by rw [hsl]; omega), hall, low32_a, low32_b, decide_eq_true_eq, eq_self, true_and, and_true, Int.toNat_natCast]
    repeat' with_reducible apply And.intro
    all_goals first | omega | exact q2 | exact q15 | exact q2.1 | exact q2.2 | exact q15.1 | exact q15.2
  · rw [E45_tab, e2, e7, e15, e16, Int.toNat_natCast, getD_left (b := List.replicate (64 - i) 0) (show 16 + i - 2 < _ by rw [hsl]; omega), getD_left (b := List.replicate (64 - i) 0) (show 16 + i - 7 < _ by rw [hsl]; omega), getD_left (b := List.replicate (64 - i) 0) (show 16 + i - 15 < _ by rw [hsl]; omega), getD_left (b := List.replicate (64 - i) 0) (show 16 + i - 16 < _ by rw [hsl]; omega)]
    have hs := set_zeros (l := schLaw 32 4294967296 [7, 18, 3] [17, 19, 10] ws i) (v := nextLaw 32 4294967296 [7, 18, 3] [17, 19, 10] (schLaw 32 4294967296 [7, 18, 3] [17, 19, 10] ws i) (16 + i)) (m := 64 - (i + 1))
    rw [hsl, show 64 - (i + 1) + 1 = 64 - i by omega] at hs
    show _ = TA45 x0 x1 x2 x3 x4 x5 x6 x7 zs g g1 e1 ow ow1 (schLaw 32 4294967296 [7, 18, 3] [17, 19, 10] ws i ++ [nextLaw 32 4294967296 [7, 18, 3] [17, 19, 10] (schLaw 32 4294967296 [7, 18, 3] [17, 19, 10] ws i) (16 + i)] ++ List.replicate (64 - (i + 1)) 0)
    rw [← hs]
    rfl
def gB45 : List AVal → Tab → Out := fun vs T => match vs, T with
  | [.var 0 g', .var 2 0, .int .i64 t], [some ⟨.agg [.int .i64 32, .int .i64 64, .int .i64 7, .int .i64 18, .int .i64 3, .int .i64 17, .int .i64 19, .int .i64 10, .int .i64 2, .int .i64 13, .int .i64 22, .int .i64 6, .int .i64 11, .int .i64 25, .int .u32 x0, .int .u32 x1, .int .u32 x2, .int .u32 x3, .int .u32 x4, .int .u32 x5, .int .u32 x6, .int .u32 x7], g, ow, 64⟩, some ⟨.ints .u8 zs, g1, ow1, e1⟩, some ⟨.ints .u32 ws, 0, true, 77⟩] =>
    ⟨[.eqN g' g, .rng 16 t 16, .p (tailLaw ws), .p (WdsLaw 32 ws)], .normal,
      [(0, .var 0 g), (4, .var 2 0)], [some ⟨.agg [.int .i64 32, .int .i64 64, .int .i64 7, .int .i64 18, .int .i64 3, .int .i64 17, .int .i64 19, .int .i64 10, .int .i64 2, .int .i64 13, .int .i64 22, .int .i64 6, .int .i64 11, .int .i64 25, .int .u32 x0, .int .u32 x1, .int .u32 x2, .int .u32 x3, .int .u32 x4, .int .u32 x5, .int .u32 x6, .int .u32 x7], g, ow, 64⟩, some ⟨.ints .u8 zs, g1, ow1, e1⟩, some ⟨.ints .u32 (wsLaw 32 4294967296 [7, 18, 3] [17, 19, 10] 64 ws), 0, true, 77⟩], []⟩
  | _, _ => failO
theorem gB45_ok : BlkOk eV32 f45 4 (.loop (roundOf 4 f45)) (blkS 3 [0,4,9] gB45) := by
  refine blkS_ok fun vs T h => ?_
  unfold gB45 at h ⊢
  split at h
  · rename_i g' t x0 x1 x2 x3 x4 x5 x6 x7 g ow zs g1 ow1 e1 ws
    obtain ⟨h1, h2, h3, h4, _⟩ := h.h
    simp only [Con.h] at h1 h2 h3 h4
    obtain rfl : t = 16 := by omega
    subst h1
    have hl : (ws.take 16).length = 16 := by rw [List.length_take, h3.1]; rfl
    have hw : Wds 32 (ws.take 16) := fun i => by
      rcases Nat.lt_or_ge i 16 with hi | hi
      · have := h4 i
        rwa [List.getD_eq_getElem?_getD, List.getElem?_take, if_pos hi, ← List.getD_eq_getElem?_getD]
      · rw [List.getD_eq_getElem?_getD, List.getElem?_take, if_neg (by omega)]; exact Wd.zero 32
    have := loopB45 (zs := zs) (g := g') (g1 := g1) (e1 := e1) (ow := ow) (ow1 := ow1) (x0 := x0) (x1 := x1) (x2 := x2) (x3 := x3) (x4 := x4) (x5 := x5) (x6 := x6) (x7 := x7) hl hw
    rw [← h3.2, List.take_append_drop] at this
    exact this
  · exact absurd h nofailO
def FC45 (g : Nat) (t : Int) : Fm := [(0, .var 0 g), (4, .var 2 0), (10, .var 3 0), (104, .int .i64 64), (105, .int .i64 t)]
def TC45 (x0 x1 x2 x3 x4 x5 x6 x7 : Int) (zs : List Int) (g g1 e1 : Nat) (ow ow1 : Bool) (ws ys : List Int) : Tab := TA45 x0 x1 x2 x3 x4 x5 x6 x7 zs g g1 e1 ow ow1 ws ++ [some ⟨.agg [.int .u32 (ys.getD 0 0), .int .u32 (ys.getD 1 0), .int .u32 (ys.getD 2 0), .int .u32 (ys.getD 3 0), .int .u32 (ys.getD 4 0), .int .u32 (ys.getD 5 0), .int .u32 (ys.getD 6 0), .int .u32 (ys.getD 7 0)], 0, true, 62⟩]
theorem loopC45 {x0 x1 x2 x3 x4 x5 x6 x7 : Int} {zs : List Int} {g g1 e1 : Nat} {ow ow1 : Bool} {ws ys : List Int} (hl : ws.length = 80) (hw : Wds 32 ws) (hyl : ys.length = 8) (hy : Wds 32 ys) :
    To eV32 204 4 (.block 6 (.loop (roundOf 6 f45))) (FC45 g 0) (TC45 x0 x1 x2 x3 x4 x5 x6 x7 zs g g1 e1 ow ow1 ws ys) .normal [(0, .var 0 g), (10, .var 3 0)] (TC45 x0 x1 x2 x3 x4 x5 x6 x7 zs g g1 e1 ow ow1 ws (rndsLaw 32 4294967296 [2, 13, 22] [6, 11, 25] ws ys 64)) := by
  refine To.rounds (fun i : Nat => FC45 g i) (fun i => TC45 x0 x1 x2 x3 x4 x5 x6 x7 zs g g1 e1 ow ow1 ws (rndsLaw 32 4294967296 [2, 13, 22] [6, 11, 25] ws ys i)) 64 (fun i hi => ?_) ?_
  · have hrl := rnds_len (W := 32) (m := 4294967296) (u0 := [2, 13, 22]) (u1 := [6, 11, 25]) (ws := ws) hyl i
    have hrw := rnds_wds (W := 32) (m := 4294967296) (by decide) (u0 := [2, 13, 22]) (u1 := [6, 11, 25]) (ws := ws) hy i
    show To _ _ _ _ _ (TC45 x0 x1 x2 x3 x4 x5 x6 x7 zs g g1 e1 ow ow1 ws (rndsLaw 32 4294967296 [2, 13, 22] [6, 11, 25] ws ys i)) _ _ (TC45 x0 x1 x2 x3 x4 x5 x6 x7 zs g g1 e1 ow ow1 ws (rndLaw 32 4294967296 [2, 13, 22] [6, 11, 25] (cLaw 32 i) (ws.getD i 0) (rndsLaw 32 4294967296 [2, 13, 22] [6, 11, 25] ws ys i)))
    generalize rndsLaw 32 4294967296 [2, 13, 22] [6, 11, 25] ws ys i = r at hrl hrw ⊢
    obtain ⟨y0, y1, y2, y3, y4, y5, y6, y7, rfl⟩ := list8 hrl
    have b0 : Wd 32 y0 := hrw 0
    have b1 : Wd 32 y1 := hrw 1
    have b2 : Wd 32 y2 := hrw 2
    have b3 : Wd 32 y3 := hrw 3
    have b4 : Wd 32 y4 := hrw 4
    have b5 : Wd 32 y5 := hrw 5
    have b6 : Wd 32 y6 := hrw 6
    have b7 : Wd 32 y7 := hrw 7
    have hc : Wd 32 (4294967295 - y4) := ⟨by have := b4.2; rw [show (2 : Int) ^ 32 = 4294967296 by decide] at this; omega, by have := b4.1; show _ < (4294967296 : Int); omega⟩
    refine To.of (o := G45 i y0 y1 y2 y3 y4 y5 y6 y7 x0 x1 x2 x3 x4 x5 x6 x7 zs ws g g1 e1 ow ow1) eV32_ok hmS (Nat.le_refl 4) OrcOk.nil rfl (G45_ok ?_) G45_ex (by rw [G45_fm]; rfl) ?_
    · simp only [allP, Con.h, hl, nn_32, high32_a, high32_b, decide_eq_true_eq, eq_self, true_and, and_true, Int.toNat_natCast]
      repeat' with_reducible apply And.intro
      all_goals first | omega | exact b0 | exact b1 | exact b2 | exact b3 | exact b4 | exact b5 | exact b6 | exact b7 | exact hc | skip
      all_goals repeat' (first | exact b0 | exact b1 | exact b2 | exact b4 | exact b5 | exact b6 | exact hc | exact b0.1 | exact b0.2 | exact b4.1 | exact b4.2 | apply Wd.ixor | apply Wd.iand)
    · rw [G45_tab, Int.toNat_natCast, c32]
      rfl
  · have hrl := rnds_len (W := 32) (m := 4294967296) (u0 := [2, 13, 22]) (u1 := [6, 11, 25]) (ws := ws) hyl 64
    show To _ _ _ _ _ (TC45 x0 x1 x2 x3 x4 x5 x6 x7 zs g g1 e1 ow ow1 ws (rndsLaw 32 4294967296 [2, 13, 22] [6, 11, 25] ws ys 64)) _ _ _
    generalize rndsLaw 32 4294967296 [2, 13, 22] [6, 11, 25] ws ys 64 = r at hrl ⊢
    obtain ⟨y0, y1, y2, y3, y4, y5, y6, y7, rfl⟩ := list8 hrl
    exact To.of (o := H45 (64 : Nat) y0 y1 y2 y3 y4 y5 y6 y7 x0 x1 x2 x3 x4 x5 x6 x7 zs ws g g1 e1 ow ow1) eV32_ok hmS (Nat.le_refl 4) OrcOk.nil rfl (H45_ok (by simp [allP, Con.h])) H45_ex H45_fm H45_tab
def gC45 : List AVal → Tab → Out := fun vs T => match vs, T with
  | [.var 0 g', .var 2 0, .var 3 0, .int .i64 r, .int .i64 t], [some ⟨.agg [.int .i64 32, .int .i64 64, .int .i64 7, .int .i64 18, .int .i64 3, .int .i64 17, .int .i64 19, .int .i64 10, .int .i64 2, .int .i64 13, .int .i64 22, .int .i64 6, .int .i64 11, .int .i64 25, .int .u32 x0, .int .u32 x1, .int .u32 x2, .int .u32 x3, .int .u32 x4, .int .u32 x5, .int .u32 x6, .int .u32 x7], g, ow, 64⟩, some ⟨.ints .u8 zs, g1, ow1, e1⟩, some ⟨.ints .u32 ws, 0, true, 77⟩, some ⟨.agg [.int .u32 y0, .int .u32 y1, .int .u32 y2, .int .u32 y3, .int .u32 y4, .int .u32 y5, .int .u32 y6, .int .u32 y7], 0, true, 62⟩] =>
    ⟨[.eqN g' g, .rng 64 r 64, .rng 0 t 0, .eqN ws.length 80, .p (WdsLaw 32 ws), .p (WdsLaw 32 [y0, y1, y2, y3, y4, y5, y6, y7])], .normal,
      [(0, .var 0 g), (10, .var 3 0)], [some ⟨.agg [.int .i64 32, .int .i64 64, .int .i64 7, .int .i64 18, .int .i64 3, .int .i64 17, .int .i64 19, .int .i64 10, .int .i64 2, .int .i64 13, .int .i64 22, .int .i64 6, .int .i64 11, .int .i64 25, .int .u32 x0, .int .u32 x1, .int .u32 x2, .int .u32 x3, .int .u32 x4, .int .u32 x5, .int .u32 x6, .int .u32 x7], g, ow, 64⟩, some ⟨.ints .u8 zs, g1, ow1, e1⟩, some ⟨.ints .u32 ws, 0, true, 77⟩, some ⟨.agg [.int .u32 (rndAtLaw 32 4294967296 [2, 13, 22] [6, 11, 25] ws [y0, y1, y2, y3, y4, y5, y6, y7] 64 0), .int .u32 (rndAtLaw 32 4294967296 [2, 13, 22] [6, 11, 25] ws [y0, y1, y2, y3, y4, y5, y6, y7] 64 1), .int .u32 (rndAtLaw 32 4294967296 [2, 13, 22] [6, 11, 25] ws [y0, y1, y2, y3, y4, y5, y6, y7] 64 2), .int .u32 (rndAtLaw 32 4294967296 [2, 13, 22] [6, 11, 25] ws [y0, y1, y2, y3, y4, y5, y6, y7] 64 3), .int .u32 (rndAtLaw 32 4294967296 [2, 13, 22] [6, 11, 25] ws [y0, y1, y2, y3, y4, y5, y6, y7] 64 4), .int .u32 (rndAtLaw 32 4294967296 [2, 13, 22] [6, 11, 25] ws [y0, y1, y2, y3, y4, y5, y6, y7] 64 5), .int .u32 (rndAtLaw 32 4294967296 [2, 13, 22] [6, 11, 25] ws [y0, y1, y2, y3, y4, y5, y6, y7] 64 6), .int .u32 (rndAtLaw 32 4294967296 [2, 13, 22] [6, 11, 25] ws [y0, y1, y2, y3, y4, y5, y6, y7] 64 7)], 0, true, 62⟩], []⟩
  | _, _ => failO
theorem gC45_ok : BlkOk eV32 f45 6 (.loop (roundOf 6 f45)) (blkS 4 [0,4,10,104,105] gC45) := by
  refine blkS_ok fun vs T h => ?_
  unfold gC45 at h ⊢
  split at h
  · rename_i g' r t x0 x1 x2 x3 x4 x5 x6 x7 g ow zs g1 ow1 e1 ws y0 y1 y2 y3 y4 y5 y6 y7
    obtain ⟨h1, h2, h3, h4, h5, h7, _⟩ := h.h
    simp only [Con.h] at h1 h2 h3 h4 h5 h7
    obtain rfl : t = 0 := by omega
    obtain rfl : r = 64 := by omega
    subst h1
    exact loopC45 h4 h5 rfl h7
  · exact absurd h nofailO
def gA51 : List AVal → Tab → Out := fun vs T => match vs, T with
  | [.var 0 g', .slice 1 1 g1' off 128 none, .var 2 0, .int .i64 c, .int .i64 i, .int .i64 j, .slice 1 1 g2' a mm none, .int .i64 m, .int .i64 k], [some ⟨.agg [.int .i64 64, .int .i64 80, .int .i64 1, .int .i64 8, .int .i64 7, .int .i64 19, .int .i64 61, .int .i64 6, .int .i64 28, .int .i64 34, .int .i64 39, .int .i64 14, .int .i64 18, .int .i64 41, .int .u64 x0, .int .u64 x1, .int .u64 x2, .int .u64 x3, .int .u64 x4, .int .u64 x5, .int .u64 x6, .int .u64 x7], g, ow, 73⟩, some ⟨.ints .u8 zs, g1, ow1, e1⟩, some ⟨.ints .u64 ws, 0, true, 79⟩] =>
    ⟨[.eqN g' g, .eqN g1' g1, .eqN g2' g1, .rng 8 c 8, .rng 0 i 15, .rng i j i, .p (a = off + 8 * i.toNat), .eqN mm 8, .rng 8 m 8, .rng 0 k 0, .leN (off + 128) zs.length, .p (BsLaw zs), .p (ws = arrLaw 8 zs off i.toNat 0)], .normal,
      [(0, .var 0 g), (1, .slice 1 1 g1 off 128 none), (4, .var 2 0), (5, .int .i64 8), (23, .int .i64 i)], [some ⟨.agg [.int .i64 64, .int .i64 80, .int .i64 1, .int .i64 8, .int .i64 7, .int .i64 19, .int .i64 61, .int .i64 6, .int .i64 28, .int .i64 34, .int .i64 39, .int .i64 14, .int .i64 18, .int .i64 41, .int .u64 x0, .int .u64 x1, .int .u64 x2, .int .u64 x3, .int .u64 x4, .int .u64 x5, .int .u64 x6, .int .u64 x7], g, ow, 73⟩, some ⟨.ints .u8 zs, g1, ow1, e1⟩, some ⟨.ints .u64 (arrLaw 8 zs off i.toNat 8), 0, true, 79⟩], []⟩
  | _, _ => failO
theorem gA51_ok : BlkOk eV64 f51 2 (.loop (roundOf 2 f51)) (blkS 3 [0,1,4,5,6,23,35,36,37] gA51) := by
  refine blkS_ok fun vs T h => ?_
  unfold gA51 at h ⊢
  split at h
  · rename_i g' g1' off c i j g2' a mm m k x0 x1 x2 x3 x4 x5 x6 x7 g ow zs g1 ow1 e1 ws
    obtain ⟨h1, h2, h3, h4, h5, h6, h7, h8, h9, h10, h11, h12, h13, _⟩ := h.h
    simp only [Con.h] at h1 h2 h3 h4 h5 h6 h7 h8 h9 h10 h11 h12 h13
    obtain rfl : c = 8 := by omega
    obtain rfl : m = 8 := by omega
    obtain rfl : k = 0 := by omega
    obtain ⟨q, rfl⟩ : ∃ q : Nat, i = q := ⟨i.toNat, by omega⟩
    obtain rfl : j = (q : Int) := by omega
    rw [Int.toNat_natCast] at h7 h13
    subst h1 h2 h3 h7 h8 h13
    exact loopA51 (by omega) h11 h12
  · exact absurd h nofailO
def FB51 (g : Nat) (t : Int) : Fm := [(0, .var 0 g), (4, .var 2 0), (9, .int .i64 t)]
theorem loopB51 {x0 x1 x2 x3 x4 x5 x6 x7 : Int} {zs : List Int} {g g1 e1 : Nat} {ow ow1 : Bool} {ws : List Int} (hl : ws.length = 16) (hw : Wds 64 ws) :
    To eV64 203 3 (.block 4 (.loop (roundOf 4 f51))) (FB51 g 16) (TA51 x0 x1 x2 x3 x4 x5 x6 x7 zs g g1 e1 ow ow1 (ws ++ List.replicate 64 0)) .normal [(0, .var 0 g), (4, .var 2 0)] (TA51 x0 x1 x2 x3 x4 x5 x6 x7 zs g g1 e1 ow ow1 (schLaw 64 18446744073709551616 [1, 8, 7] [19, 61, 6] ws 64 ++ List.replicate 0 0)) := by
  refine To.rounds (fun i : Nat => FB51 g (16 + i : Nat)) (fun i => TA51 x0 x1 x2 x3 x4 x5 x6 x7 zs g g1 e1 ow ow1 (schLaw 64 18446744073709551616 [1, 8, 7] [19, 61, 6] ws i ++ List.replicate (64 - i) 0)) 64 (fun i hi => ?_)
    (To.of (o := F51 (80 : Nat) x0 x1 x2 x3 x4 x5 x6 x7 zs (schLaw 64 18446744073709551616 [1, 8, 7] [19, 61, 6] ws 64 ++ List.replicate 0 0) g g1 e1 ow ow1) eV64_ok hmS (Nat.le_refl 3) OrcOk.nil rfl (F51_ok (by simp [allP, Con.h])) F51_ex F51_fm F51_tab)
  have hsl := schLaw_len (W := 64) (m := 18446744073709551616) (l0 := [1, 8, 7]) (l1 := [19, 61, 6]) hl i
  have hsw := schLaw_wds (W := 64) (m := 18446744073709551616) (by decide) (l0 := [1, 8, 7]) (l1 := [19, 61, 6]) hw i
  have hall : (schLaw 64 18446744073709551616 [1, 8, 7] [19, 61, 6] ws i ++ List.replicate (64 - i) 0).length = 80 := by rw [List.length_append, hsl, List.length_replicate]; omega
  have e2 : (((16 + i : Nat) : Int) - 2).toNat = 16 + i - 2 := by omega
  have e7 : (((16 + i : Nat) : Int) - 7).toNat = 16 + i - 7 := by omega
  have e15 : (((16 + i : Nat) : Int) - 15).toNat = 16 + i - 15 := by omega
  have e16 : (((16 + i : Nat) : Int) - 16).toNat = 16 + i - 16 := by omega
  refine To.of (o := E51 (16 + i : Nat) x0 x1 x2 x3 x4 x5 x6 x7 zs (schLaw 64 18446744073709551616 [1, 8, 7] [19, 61, 6] ws i ++ List.replicate (64 - i) 0) g g1 e1 ow ow1) eV64_ok hmS (Nat.le_refl 3) OrcOk.nil rfl (E51_ok ?_) E51_ex (by rw [E51_fm]; rfl) ?_
  · rw [e2, e7, e15, e16]
    have q2 := hsw (16 + i - 2)
    have q15 := hsw (16 + i - 15)
    simp only [allP, Con.h, getD_left (b := List.replicate (64 - i) 0) (show 16 + i - 2 < _ by rw [hsl]; omega), getD_left (b := List.replicate (64 - i) 0) (show 16 + i - 15 < _ by rw [hsl]; omega), hall, low64_a, low64_b, decide_eq_true_eq, eq_self, true_and, and_true, Int.toNat_natCast]
    repeat' with_reducible apply And.intro
    all_goals first | omega | exact q2 | exact q15 | exact q2.1 | exact q2.2 | exact q15.1 | exact q15.2
  · rw [E51_tab, e2, e7, e15, e16, Int.toNat_natCast, getD_left (b := List.replicate (64 - i) 0) (show 16 + i - 2 < _ by rw [hsl]; omega), getD_left (b := List.replicate (64 - i) 0) (show 16 + i - 7 < _ by rw [hsl]; omega), getD_left (b := List.replicate (64 - i) 0) (show 16 + i - 15 < _ by rw [hsl]; omega), getD_left (b := List.replicate (64 - i) 0) (show 16 + i - 16 < _ by rw [hsl]; omega)]
    have hs := set_zeros (l := schLaw 64 18446744073709551616 [1, 8, 7] [19, 61, 6] ws i) (v := nextLaw 64 18446744073709551616 [1, 8, 7] [19, 61, 6] (schLaw 64 18446744073709551616 [1, 8, 7] [19, 61, 6] ws i) (16 + i)) (m := 64 - (i + 1))
    rw [hsl, show 64 - (i + 1) + 1 = 64 - i by omega] at hs
    show _ = TA51 x0 x1 x2 x3 x4 x5 x6 x7 zs g g1 e1 ow ow1 (schLaw 64 18446744073709551616 [1, 8, 7] [19, 61, 6] ws i ++ [nextLaw 64 18446744073709551616 [1, 8, 7] [19, 61, 6] (schLaw 64 18446744073709551616 [1, 8, 7] [19, 61, 6] ws i) (16 + i)] ++ List.replicate (64 - (i + 1)) 0)
    rw [← hs]
    rfl
def gB51 : List AVal → Tab → Out := fun vs T => match vs, T with
  | [.var 0 g', .var 2 0, .int .i64 t], [some ⟨.agg [.int .i64 64, .int .i64 80, .int .i64 1, .int .i64 8, .int .i64 7, .int .i64 19, .int .i64 61, .int .i64 6, .int .i64 28, .int .i64 34, .int .i64 39, .int .i64 14, .int .i64 18, .int .i64 41, .int .u64 x0, .int .u64 x1, .int .u64 x2, .int .u64 x3, .int .u64 x4, .int .u64 x5, .int .u64 x6, .int .u64 x7], g, ow, 73⟩, some ⟨.ints .u8 zs, g1, ow1, e1⟩, some ⟨.ints .u64 ws, 0, true, 79⟩] =>
    ⟨[.eqN g' g, .rng 16 t 16, .p (tailLaw ws), .p (WdsLaw 64 ws)], .normal,
      [(0, .var 0 g), (4, .var 2 0)], [some ⟨.agg [.int .i64 64, .int .i64 80, .int .i64 1, .int .i64 8, .int .i64 7, .int .i64 19, .int .i64 61, .int .i64 6, .int .i64 28, .int .i64 34, .int .i64 39, .int .i64 14, .int .i64 18, .int .i64 41, .int .u64 x0, .int .u64 x1, .int .u64 x2, .int .u64 x3, .int .u64 x4, .int .u64 x5, .int .u64 x6, .int .u64 x7], g, ow, 73⟩, some ⟨.ints .u8 zs, g1, ow1, e1⟩, some ⟨.ints .u64 (wsLaw 64 18446744073709551616 [1, 8, 7] [19, 61, 6] 80 ws), 0, true, 79⟩], []⟩
  | _, _ => failO
theorem gB51_ok : BlkOk eV64 f51 4 (.loop (roundOf 4 f51)) (blkS 3 [0,4,9] gB51) := by
  refine blkS_ok fun vs T h => ?_
  unfold gB51 at h ⊢
  split at h
  · rename_i g' t x0 x1 x2 x3 x4 x5 x6 x7 g ow zs g1 ow1 e1 ws
    obtain ⟨h1, h2, h3, h4, _⟩ := h.h
    simp only [Con.h] at h1 h2 h3 h4
    obtain rfl : t = 16 := by omega
    subst h1
    have hl : (ws.take 16).length = 16 := by rw [List.length_take, h3.1]; rfl
    have hw : Wds 64 (ws.take 16) := fun i => by
      rcases Nat.lt_or_ge i 16 with hi | hi
      · have := h4 i
        rwa [List.getD_eq_getElem?_getD, List.getElem?_take, if_pos hi, ← List.getD_eq_getElem?_getD]
      · rw [List.getD_eq_getElem?_getD, List.getElem?_take, if_neg (by omega)]; exact Wd.zero 64
    have := loopB51 (zs := zs) (g := g') (g1 := g1) (e1 := e1) (ow := ow) (ow1 := ow1) (x0 := x0) (x1 := x1) (x2 := x2) (x3 := x3) (x4 := x4) (x5 := x5) (x6 := x6) (x7 := x7) hl hw
    rw [← h3.2, List.take_append_drop] at this
    exact this
  · exact absurd h nofailO
def FC51 (g : Nat) (t : Int) : Fm := [(0, .var 0 g), (4, .var 2 0), (10, .var 3 0), (104, .int .i64 80), (105, .int .i64 t)]
def TC51 (x0 x1 x2 x3 x4 x5 x6 x7 : Int) (zs : List Int) (g g1 e1 : Nat) (ow ow1 : Bool) (ws ys : List Int) : Tab := TA51 x0 x1 x2 x3 x4 x5 x6 x7 zs g g1 e1 ow ow1 ws ++ [some ⟨.agg [.int .u64 (ys.getD 0 0), .int .u64 (ys.getD 1 0), .int .u64 (ys.getD 2 0), .int .u64 (ys.getD 3 0), .int .u64 (ys.getD 4 0), .int .u64 (ys.getD 5 0), .int .u64 (ys.getD 6 0), .int .u64 (ys.getD 7 0)], 0, true, 71⟩]
theorem loopC51 {x0 x1 x2 x3 x4 x5 x6 x7 : Int} {zs : List Int} {g g1 e1 : Nat} {ow ow1 : Bool} {ws ys : List Int} (hl : ws.length = 80) (hw : Wds 64 ws) (hyl : ys.length = 8) (hy : Wds 64 ys) :
    To eV64 203 4 (.block 6 (.loop (roundOf 6 f51))) (FC51 g 0) (TC51 x0 x1 x2 x3 x4 x5 x6 x7 zs g g1 e1 ow ow1 ws ys) .normal [(0, .var 0 g), (10, .var 3 0)] (TC51 x0 x1 x2 x3 x4 x5 x6 x7 zs g g1 e1 ow ow1 ws (rndsLaw 64 18446744073709551616 [28, 34, 39] [14, 18, 41] ws ys 80)) := by
  refine To.rounds (fun i : Nat => FC51 g i) (fun i => TC51 x0 x1 x2 x3 x4 x5 x6 x7 zs g g1 e1 ow ow1 ws (rndsLaw 64 18446744073709551616 [28, 34, 39] [14, 18, 41] ws ys i)) 80 (fun i hi => ?_) ?_
  · have hrl := rnds_len (W := 64) (m := 18446744073709551616) (u0 := [28, 34, 39]) (u1 := [14, 18, 41]) (ws := ws) hyl i
    have hrw := rnds_wds (W := 64) (m := 18446744073709551616) (by decide) (u0 := [28, 34, 39]) (u1 := [14, 18, 41]) (ws := ws) hy i
    show To _ _ _ _ _ (TC51 x0 x1 x2 x3 x4 x5 x6 x7 zs g g1 e1 ow ow1 ws (rndsLaw 64 18446744073709551616 [28, 34, 39] [14, 18, 41] ws ys i)) _ _ (TC51 x0 x1 x2 x3 x4 x5 x6 x7 zs g g1 e1 ow ow1 ws (rndLaw 64 18446744073709551616 [28, 34, 39] [14, 18, 41] (cLaw 64 i) (ws.getD i 0) (rndsLaw 64 18446744073709551616 [28, 34, 39] [14, 18, 41] ws ys i)))
    generalize rndsLaw 64 18446744073709551616 [28, 34, 39] [14, 18, 41] ws ys i = r at hrl hrw ⊢
    obtain ⟨y0, y1, y2, y3, y4, y5, y6, y7, rfl⟩ := list8 hrl
    have b0 : Wd 64 y0 := hrw 0
    have b1 : Wd 64 y1 := hrw 1
    have b2 : Wd 64 y2 := hrw 2
    have b3 : Wd 64 y3 := hrw 3
    have b4 : Wd 64 y4 := hrw 4
    have b5 : Wd 64 y5 := hrw 5
    have b6 : Wd 64 y6 := hrw 6
    have b7 : Wd 64 y7 := hrw 7
    have hc : Wd 64 (18446744073709551615 - y4) := ⟨by have := b4.2; rw [show (2 : Int) ^ 64 = 18446744073709551616 by decide] at this; omega, by have := b4.1; show _ < (18446744073709551616 : Int); omega⟩
    refine To.of (o := G51 i y0 y1 y2 y3 y4 y5 y6 y7 x0 x1 x2 x3 x4 x5 x6 x7 zs ws g g1 e1 ow ow1) eV64_ok hmS (Nat.le_refl 4) OrcOk.nil rfl (G51_ok ?_) G51_ex (by rw [G51_fm]; rfl) ?_
    · simp only [allP, Con.h, hl, nn_64, high64_a, high64_b, decide_eq_true_eq, eq_self, true_and, and_true, Int.toNat_natCast]
      repeat' with_reducible apply And.intro
      all_goals first | omega | exact b0 | exact b1 | exact b2 | exact b3 | exact b4 | exact b5 | exact b6 | exact b7 | exact hc | skip
      all_goals repeat' (first | exact b0 | exact b1 | exact b2 | exact b4 | exact b5 | exact b6 | exact hc | exact b0.1 | exact b0.2 | exact b4.1 | exact b4.2 | apply Wd.ixor | apply Wd.iand)
    · rw [G51_tab, Int.toNat_natCast, c64]
      rfl
  · have hrl := rnds_len (W := 64) (m := 18446744073709551616) (u0 := [28, 34, 39]) (u1 := [14, 18, 41]) (ws := ws) hyl 80
    show To _ _ _ _ _ (TC51 x0 x1 x2 x3 x4 x5 x6 x7 zs g g1 e1 ow ow1 ws (rndsLaw 64 18446744073709551616 [28, 34, 39] [14, 18, 41] ws ys 80)) _ _ _
    generalize rndsLaw 64 18446744073709551616 [28, 34, 39] [14, 18, 41] ws ys 80 = r at hrl ⊢
    obtain ⟨y0, y1, y2, y3, y4, y5, y6, y7, rfl⟩ := list8 hrl
    exact To.of (o := H51 (80 : Nat) y0 y1 y2 y3 y4 y5 y6 y7 x0 x1 x2 x3 x4 x5 x6 x7 zs ws g g1 e1 ow ow1) eV64_ok hmS (Nat.le_refl 4) OrcOk.nil rfl (H51_ok (by simp [allP, Con.h])) H51_ex H51_fm H51_tab
def gC51 : List AVal → Tab → Out := fun vs T => match vs, T with
  | [.var 0 g', .var 2 0, .var 3 0, .int .i64 r, .int .i64 t], [some ⟨.agg [.int .i64 64, .int .i64 80, .int .i64 1, .int .i64 8, .int .i64 7, .int .i64 19, .int .i64 61, .int .i64 6, .int .i64 28, .int .i64 34, .int .i64 39, .int .i64 14, .int .i64 18, .int .i64 41, .int .u64 x0, .int .u64 x1, .int .u64 x2, .int .u64 x3, .int .u64 x4, .int .u64 x5, .int .u64 x6, .int .u64 x7], g, ow, 73⟩, some ⟨.ints .u8 zs, g1, ow1, e1⟩, some ⟨.ints .u64 ws, 0, true, 79⟩, some ⟨.agg [.int .u64 y0, .int .u64 y1, .int .u64 y2, .int .u64 y3, .int .u64 y4, .int .u64 y5, .int .u64 y6, .int .u64 y7], 0, true, 71⟩] =>
    ⟨[.eqN g' g, .rng 80 r 80, .rng 0 t 0, .eqN ws.length 80, .p (WdsLaw 64 ws), .p (WdsLaw 64 [y0, y1, y2, y3, y4, y5, y6, y7])], .normal,
      [(0, .var 0 g), (10, .var 3 0)], [some ⟨.agg [.int .i64 64, .int .i64 80, .int .i64 1, .int .i64 8, .int .i64 7, .int .i64 19, .int .i64 61, .int .i64 6, .int .i64 28, .int .i64 34, .int .i64 39, .int .i64 14, .int .i64 18, .int .i64 41, .int .u64 x0, .int .u64 x1, .int .u64 x2, .int .u64 x3, .int .u64 x4, .int .u64 x5, .int .u64 x6, .int .u64 x7], g, ow, 73⟩, some ⟨.ints .u8 zs, g1, ow1, e1⟩, some ⟨.ints .u64 ws, 0, true, 79⟩, some ⟨.agg [.int .u64 (rndAtLaw 64 18446744073709551616 [28, 34, 39] [14, 18, 41] ws [y0, y1, y2, y3, y4, y5, y6, y7] 80 0), .int .u64 (rndAtLaw 64 18446744073709551616 [28, 34, 39] [14, 18, 41] ws [y0, y1, y2, y3, y4, y5, y6, y7] 80 1), .int .u64 (rndAtLaw 64 18446744073709551616 [28, 34, 39] [14, 18, 41] ws [y0, y1, y2, y3, y4, y5, y6, y7] 80 2), .int .u64 (rndAtLaw 64 18446744073709551616 [28, 34, 39] [14, 18, 41] ws [y0, y1, y2, y3, y4, y5, y6, y7] 80 3), .int .u64 (rndAtLaw 64 18446744073709551616 [28, 34, 39] [14, 18, 41] ws [y0, y1, y2, y3, y4, y5, y6, y7] 80 4), .int .u64 (rndAtLaw 64 18446744073709551616 [28, 34, 39] [14, 18, 41] ws [y0, y1, y2, y3, y4, y5, y6, y7] 80 5), .int .u64 (rndAtLaw 64 18446744073709551616 [28, 34, 39] [14, 18, 41] ws [y0, y1, y2, y3, y4, y5, y6, y7] 80 6), .int .u64 (rndAtLaw 64 18446744073709551616 [28, 34, 39] [14, 18, 41] ws [y0, y1, y2, y3, y4, y5, y6, y7] 80 7)], 0, true, 71⟩], []⟩
  | _, _ => failO
theorem gC51_ok : BlkOk eV64 f51 6 (.loop (roundOf 6 f51)) (blkS 4 [0,4,10,104,105] gC51) := by
  refine blkS_ok fun vs T h => ?_
  unfold gC51 at h ⊢
  split at h
  · rename_i g' r t x0 x1 x2 x3 x4 x5 x6 x7 g ow zs g1 ow1 e1 ws y0 y1 y2 y3 y4 y5 y6 y7
    obtain ⟨h1, h2, h3, h4, h5, h7, _⟩ := h.h
    simp only [Con.h] at h1 h2 h3 h4 h5 h7
    obtain rfl : t = 0 := by omega
    obtain rfl : r = 80 := by omega
    subst h1
    exact loopC51 h4 h5 rfl h7
  · exact absurd h nofailO
end Go.Abs

set_option linter.unusedVariables false
set_option linter.unusedSimpArgs false
set_option maxRecDepth 8000
namespace Go.Abs
open Go.Proofs Go.Proofs.Tryd
noncomputable def orc45 : OrcL := [(2, blkS 3 [0,1,4,5,6,23,35,36,37] gA45), (4, blkS 3 [0,4,9] gB45), (6, blkS 4 [0,4,10,104,105] gC45)]
theorem orc45_ok : FnOrc eV32 f45 orc45 := FnOrc.cons gA45_ok (by kernel_rfl) (FnOrc.cons gB45_ok (by kernel_rfl) (FnOrc.cons gC45_ok (by kernel_rfl) FnOrc.nil))
noncomputable def R45 (off : Nat) (x0 x1 x2 x3 x4 x5 x6 x7 : Int) (zs : List Int) (g g1 e1 : Nat) (ow1 : Bool) : Res := runF eV32 f45 orc45 2000 [.var 0 g, .slice 1 1 g1 off 64 none] [some ⟨.agg [.int .i64 32, .int .i64 64, .int .i64 7, .int .i64 18, .int .i64 3, .int .i64 17, .int .i64 19, .int .i64 10, .int .i64 2, .int .i64 13, .int .i64 22, .int .i64 6, .int .i64 11, .int .i64 25, .int .u32 x0, .int .u32 x1, .int .u32 x2, .int .u32 x3, .int .u32 x4, .int .u32 x5, .int .u32 x6, .int .u32 x7], g, true, 64⟩, some ⟨.ints .u8 zs, g1, ow1, e1⟩] []
theorem R45_ok {off : Nat} {x0 x1 x2 x3 x4 x5 x6 x7 : Int} {zs : List Int} {g g1 e1 : Nat} {ow1 : Bool} (h : allP [.eqN g g, .eqN g g, .eqN g g, .eqN g g, .eqN g1 g1, .orN 4 64 (off + 4) zs.length, .eqN g1 g1, .eqN g g, .eqN g1 g1, .eqN g1 g1, .p (addO off 0 = off + 0), .leN (off + 64) zs.length, .p (BsLaw zs), .p ([0, 0, 0, 0, 0, 0, 0, 0, 0, 0, 0, 0, 0, 0, 0, 0, 0, 0, 0, 0, 0, 0, 0, 0, 0, 0, 0, 0,
 0, 0, 0, 0, 0, 0, 0, 0, 0, 0, 0, 0, 0, 0, 0, 0, 0, 0, 0, 0, 0, 0, 0, 0, 0, 0, 0, 0, 0, 0, 0, 0, 0, 0, 0, 0, 0, 0, 0, 0, 0, 0, 0, 0, 0, 0, 0, 0, 0, 0, 0, 0] = arrLaw 4 zs off 0 0), .eqN g1 g1, .orN 8 64 (off + 8) zs.length, .eqN g1 g1, .eqN g g, .eqN g1 g1, .eqN g1 g1, .p (addO off 4 = off + 4), .leN (off + 64) zs.length, .p (BsLaw zs), .p (arrLaw 4 zs off 0 4 = arrLaw 4 zs off 1 0), .eqN g1 g1,
 .orN 12 64 (off + 12) zs.length, .eqN g1 g1, .eqN g g, .eqN g1 g1, .eqN g1 g1, .p (addO off 8 = off + 8), .leN (off + 64) zs.length, .p (BsLaw zs), .p (arrLaw 4 zs off 1 4 = arrLaw 4 zs off 2 0), .eqN g1 g1, .orN 16 64 (off + 16) zs.length, .eqN g1 g1, .eqN g g, .eqN g1 g1, .eqN g1 g1, .p (addO off 12 = off + 12), .leN (off + 64) zs.length, .p (BsLaw zs), .p (arrLaw 4 zs off 2 4 = arrLaw 4 zs off 3
 0), .eqN g1 g1, .orN 20 64 (off + 20) zs.length, .eqN g1 g1, .eqN g g, .eqN g1 g1, .eqN g1 g1, .p (addO off 16 = off + 16), .leN (off + 64) zs.length, .p (BsLaw zs), .p (arrLaw 4 zs off 3 4 = arrLaw 4 zs off 4 0), .eqN g1 g1, .orN 24 64 (off + 24) zs.length, .eqN g1 g1, .eqN g g, .eqN g1 g1, .eqN g1 g1, .p (addO off 20 = off + 20), .leN (off + 64) zs.length, .p (BsLaw zs), .p (arrLaw 4 zs off 4 4 =
 arrLaw 4 zs off 5 0), .eqN g1 g1, .orN 28 64 (off + 28) zs.length, .eqN g1 g1, .eqN g g, .eqN g1 g1, .eqN g1 g1, .p (addO off 24 = off + 24), .leN (off + 64) zs.length, .p (BsLaw zs), .p (arrLaw 4 zs off 5 4 = arrLaw 4 zs off 6 0), .eqN g1 g1, .orN 32 64 (off + 32) zs.length, .eqN g1 g1, .eqN g g, .eqN g1 g1, .eqN g1 g1, .p (addO off 28 = off + 28), .leN (off + 64) zs.length, .p (BsLaw zs), .p
 (arrLaw 4 zs off 6 4 = arrLaw 4 zs off 7 0), .eqN g1 g1, .orN 36 64 (off + 36) zs.length, .eqN g1 g1, .eqN g g, .eqN g1 g1, .eqN g1 g1, .p (addO off 32 = off + 32), .leN (off + 64) zs.length, .p (BsLaw zs), .p (arrLaw 4 zs off 7 4 = arrLaw 4 zs off 8 0), .eqN g1 g1, .orN 40 64 (off + 40) zs.length, .eqN g1 g1, .eqN g g, .eqN g1 g1, .eqN g1 g1, .p (addO off 36 = off + 36), .leN (off + 64) zs.length,
 .p (BsLaw zs), .p (arrLaw 4 zs off 8 4 = arrLaw 4 zs off 9 0), .eqN g1 g1, .orN 44 64 (off + 44) zs.length, .eqN g1 g1, .eqN g g, .eqN g1 g1, .eqN g1 g1, .p (addO off 40 = off + 40), .leN (off + 64) zs.length, .p (BsLaw zs), .p (arrLaw 4 zs off 9 4 = arrLaw 4 zs off 10 0), .eqN g1 g1, .orN 48 64 (off + 48) zs.length, .eqN g1 g1, .eqN g g, .eqN g1 g1, .eqN g1 g1, .p (addO off 44 = off + 44), .leN
 (off + 64) zs.length, .p (BsLaw zs), .p (arrLaw 4 zs off 10 4 = arrLaw 4 zs off 11 0), .eqN g1 g1, .orN 52 64 (off + 52) zs.length, .eqN g1 g1, .eqN g g, .eqN g1 g1, .eqN g1 g1, .p (addO off 48 = off + 48), .leN (off + 64) zs.length, .p (BsLaw zs), .p (arrLaw 4 zs off 11 4 = arrLaw 4 zs off 12 0), .eqN g1 g1, .orN 56 64 (off + 56) zs.length, .eqN g1 g1, .eqN g g, .eqN g1 g1, .eqN g1 g1, .p (addO
 off 52 = off + 52), .leN (off + 64) zs.length, .p (BsLaw zs), .p (arrLaw 4 zs off 12 4 = arrLaw 4 zs off 13 0), .eqN g1 g1, .orN 60 64 (off + 60) zs.length, .eqN g1 g1, .eqN g g, .eqN g1 g1, .eqN g1 g1, .p (addO off 56 = off + 56), .leN (off + 64) zs.length, .p (BsLaw zs), .p (arrLaw 4 zs off 13 4 = arrLaw 4 zs off 14 0), .eqN g1 g1, .orN 64 64 (off + 64) zs.length, .eqN g1 g1, .eqN g g, .eqN g1
 g1, .eqN g1 g1, .p (addO off 60 = off + 60), .leN (off + 64) zs.length, .p (BsLaw zs), .p (arrLaw 4 zs off 14 4 = arrLaw 4 zs off 15 0), .eqN g g, .p (tailLaw (arrLaw 4 zs off 15 4)), .p (WdsLaw 32 (arrLaw 4 zs off 15 4)), .eqN g g, .eqN g g, .eqN g g, .eqN g g, .eqN g g, .eqN g g, .eqN g g, .eqN g g, .p (WdsLaw 32 (wsLaw 32 4294967296 [7, 18, 3] [17, 19, 10] 64 (arrLaw 4 zs off 15 4))), .p (WdsLaw
 32 [x0, x1, x2, x3, x4, x5, x6, x7]), .eqN g g, .eqN g g, .eqN g g, .eqN g g, .eqN g g, .eqN g g, .eqN g g, .eqN g g, .eqN g g, .eqN g g, .eqN g g, .eqN g g, .eqN g g, .eqN g g, .eqN g g, .eqN g g, .eqN g g, .eqN g g, .eqN g g, .eqN g g, .eqN g g, .eqN g g, .eqN g g, .eqN g g, .eqN g g, .eqN g g, .eqN g g, .eqN g g, .eqN g g, .eqN g g, .eqN g g, .eqN g g, .eqN g g, .eqN g g, .eqN g g, .eqN g g,
 .eqN g g, .eqN g g, .eqN g g, .eqN g g, .eqN g g, .eqN g g, .eqN g g, .eqN g g, .eqN g g, .eqN g g, .eqN g g, .eqN g g, .eqN g g, .eqN g g, .eqN g g, .eqN g g, .eqN g g, .eqN g g, .eqN g g, .eqN g g, .eqN g g, .eqN g g, .eqN g g, .eqN g g, .eqN g g, .eqN g g, .eqN g g, .eqN g g]) : OkR (R45 off x0 x1 x2 x3 x4 x5 x6 x7 zs g g1 e1 ow1) := OkR.dem (fl := bitsF 590
 2938260225140539229620652563862794769005073937329269980115612689954969734996059937441785649617964357826829457443517600380832151966184015564917377100393102529997953361048870858736) (by kernel_rfl) (by kernel_rfl) (by kernel_rfl) h
theorem R45_val {off : Nat} {x0 x1 x2 x3 x4 x5 x6 x7 : Int} {zs : List Int} {g g1 e1 : Nat} {ow1 : Bool} : (R45 off x0 x1 x2 x3 x4 x5 x6 x7 zs g g1 e1 ow1).val = .tuple [] := by kernel_rfl
theorem R45_tab {off : Nat} {x0 x1 x2 x3 x4 x5 x6 x7 : Int} {zs : List Int} {g g1 e1 : Nat} {ow1 : Bool} : (R45 off x0 x1 x2 x3 x4 x5 x6 x7 zs g g1 e1 ow1).tab = [some ⟨.agg [.int .i64 32, .int .i64 64, .int .i64 7, .int .i64 18, .int .i64 3, .int .i64 17, .int .i64 19, .int .i64 10, .int .i64 2, .int .i64 13, .int .i64 22, .int .i64 6, .int .i64 11, .int .i64 25, .int .u32 ((x0 + rndAtLaw 32
 4294967296 [2, 13, 22] [6, 11, 25] (wsLaw 32 4294967296 [7, 18, 3] [17, 19, 10] 64 (arrLaw 4 zs off 15 4)) [x0, x1, x2, x3, x4, x5, x6, x7] 64 0) % 4294967296), .int .u32 ((x1 + rndAtLaw 32 4294967296 [2, 13, 22] [6, 11, 25] (wsLaw 32 4294967296 [7, 18, 3] [17, 19, 10] 64 (arrLaw 4 zs off 15 4)) [x0, x1, x2, x3, x4, x5, x6, x7] 64 1) % 4294967296), .int .u32 ((x2 + rndAtLaw 32 4294967296 [2, 13,
 22] [6, 11, 25] (wsLaw 32 4294967296 [7, 18, 3] [17, 19, 10] 64 (arrLaw 4 zs off 15 4)) [x0, x1, x2, x3, x4, x5, x6, x7] 64 2) % 4294967296), .int .u32 ((x3 + rndAtLaw 32 4294967296 [2, 13, 22] [6, 11, 25] (wsLaw 32 4294967296 [7, 18, 3] [17, 19, 10] 64 (arrLaw 4 zs off 15 4)) [x0, x1, x2, x3, x4, x5, x6, x7] 64 3) % 4294967296), .int .u32 ((x4 + rndAtLaw 32 4294967296 [2, 13, 22] [6, 11, 25]
 (wsLaw 32 4294967296 [7, 18, 3] [17, 19, 10] 64 (arrLaw 4 zs off 15 4)) [x0, x1, x2, x3, x4, x5, x6, x7] 64 4) % 4294967296), .int .u32 ((x5 + rndAtLaw 32 4294967296 [2, 13, 22] [6, 11, 25] (wsLaw 32 4294967296 [7, 18, 3] [17, 19, 10] 64 (arrLaw 4 zs off 15 4)) [x0, x1, x2, x3, x4, x5, x6, x7] 64 5) % 4294967296), .int .u32 ((x6 + rndAtLaw 32 4294967296 [2, 13, 22] [6, 11, 25] (wsLaw 32 4294967296
 [7, 18, 3] [17, 19, 10] 64 (arrLaw 4 zs off 15 4)) [x0, x1, x2, x3, x4, x5, x6, x7] 64 6) % 4294967296), .int .u32 ((x7 + rndAtLaw 32 4294967296 [2, 13, 22] [6, 11, 25] (wsLaw 32 4294967296 [7, 18, 3] [17, 19, 10] 64 (arrLaw 4 zs off 15 4)) [x0, x1, x2, x3, x4, x5, x6, x7] 64 7) % 4294967296)], g, true, 64⟩, some ⟨.ints .u8 zs, g1, ow1, e1⟩, some ⟨.ints .u32 (wsLaw 32 4294967296 [7, 18, 3] [17, 19,
 10] 64 (arrLaw 4 zs off 15 4)), 0, true, 77⟩, some ⟨.agg [.int .u32 (rndAtLaw 32 4294967296 [2, 13, 22] [6, 11, 25] (wsLaw 32 4294967296 [7, 18, 3] [17, 19, 10] 64 (arrLaw 4 zs off 15 4)) [x0, x1, x2, x3, x4, x5, x6, x7] 64 0), .int .u32 (rndAtLaw 32 4294967296 [2, 13, 22] [6, 11, 25] (wsLaw 32 4294967296 [7, 18, 3] [17, 19, 10] 64 (arrLaw 4 zs off 15 4)) [x0, x1, x2, x3, x4, x5, x6, x7] 64 1),
 .int .u32 (rndAtLaw 32 4294967296 [2, 13, 22] [6, 11, 25] (wsLaw 32 4294967296 [7, 18, 3] [17, 19, 10] 64 (arrLaw 4 zs off 15 4)) [x0, x1, x2, x3, x4, x5, x6, x7] 64 2), .int .u32 (rndAtLaw 32 4294967296 [2, 13, 22] [6, 11, 25] (wsLaw 32 4294967296 [7, 18, 3] [17, 19, 10] 64 (arrLaw 4 zs off 15 4)) [x0, x1, x2, x3, x4, x5, x6, x7] 64 3), .int .u32 (rndAtLaw 32 4294967296 [2, 13, 22] [6, 11, 25]
 (wsLaw 32 4294967296 [7, 18, 3] [17, 19, 10] 64 (arrLaw 4 zs off 15 4)) [x0, x1, x2, x3, x4, x5, x6, x7] 64 4), .int .u32 (rndAtLaw 32 4294967296 [2, 13, 22] [6, 11, 25] (wsLaw 32 4294967296 [7, 18, 3] [17, 19, 10] 64 (arrLaw 4 zs off 15 4)) [x0, x1, x2, x3, x4, x5, x6, x7] 64 5), .int .u32 (rndAtLaw 32 4294967296 [2, 13, 22] [6, 11, 25] (wsLaw 32 4294967296 [7, 18, 3] [17, 19, 10] 64 (arrLaw 4 zs
 off 15 4)) [x0, x1, x2, x3, x4, x5, x6, x7] 64 6), .int .u32 (rndAtLaw 32 4294967296 [2, 13, 22] [6, 11, 25] (wsLaw 32 4294967296 [7, 18, 3] [17, 19, 10] 64 (arrLaw 4 zs off 15 4)) [x0, x1, x2, x3, x4, x5, x6, x7] 64 7)], 0, true, 62⟩] := by kernel_rfl
noncomputable def orc51 : OrcL := [(2, blkS 3 [0,1,4,5,6,23,35,36,37] gA51), (4, blkS 3 [0,4,9] gB51), (6, blkS 4 [0,4,10,104,105] gC51)]
theorem orc51_ok : FnOrc eV64 f51 orc51 := FnOrc.cons gA51_ok (by kernel_rfl) (FnOrc.cons gB51_ok (by kernel_rfl) (FnOrc.cons gC51_ok (by kernel_rfl) FnOrc.nil))
noncomputable def R51 (off : Nat) (x0 x1 x2 x3 x4 x5 x6 x7 : Int) (zs : List Int) (g g1 e1 : Nat) (ow1 : Bool) : Res := runF eV64 f51 orc51 2000 [.var 0 g, .slice 1 1 g1 off 128 none] [some ⟨.agg [.int .i64 64, .int .i64 80, .int .i64 1, .int .i64 8, .int .i64 7, .int .i64 19, .int .i64 61, .int .i64 6, .int .i64 28, .int .i64 34, .int .i64 39, .int .i64 14, .int .i64 18, .int .i64 41, .int .u64 x0, .int .u64 x1, .int .u64 x2, .int .u64 x3, .int .u64 x4, .int .u64 x5, .int .u64 x6, .int .u64 x7], g, true, 73⟩, some ⟨.ints .u8 zs, g1, ow1, e1⟩] []
theorem R51_ok {off : Nat} {x0 x1 x2 x3 x4 x5 x6 x7 : Int} {zs : List Int} {g g1 e1 : Nat} {ow1 : Bool} (h : allP [.eqN g g, .eqN g g, .eqN g g, .eqN g g, .eqN g1 g1, .orN 8 128 (off + 8) zs.length, .eqN g1 g1, .eqN g g, .eqN g1 g1, .eqN g1 g1, .p (addO off 0 = off + 0), .leN (off + 128) zs.length, .p (BsLaw zs), .p ([0, 0, 0, 0, 0, 0, 0, 0, 0, 0, 0, 0, 0, 0, 0, 0, 0, 0, 0, 0, 0, 0, 0, 0, 0, 0, 0,
 0, 0, 0, 0, 0, 0, 0, 0, 0, 0, 0, 0, 0, 0, 0, 0, 0, 0, 0, 0, 0, 0, 0, 0, 0, 0, 0, 0, 0, 0, 0, 0, 0, 0, 0, 0, 0, 0, 0, 0, 0, 0, 0, 0, 0, 0, 0, 0, 0, 0, 0, 0, 0] = arrLaw 8 zs off 0 0), .eqN g1 g1, .orN 16 128 (off + 16) zs.length, .eqN g1 g1, .eqN g g, .eqN g1 g1, .eqN g1 g1, .p (addO off 8 = off + 8), .leN (off + 128) zs.length, .p (BsLaw zs), .p (arrLaw 8 zs off 0 8 = arrLaw 8 zs off 1 0), .eqN g1
 g1, .orN 24 128 (off + 24) zs.length, .eqN g1 g1, .eqN g g, .eqN g1 g1, .eqN g1 g1, .p (addO off 16 = off + 16), .leN (off + 128) zs.length, .p (BsLaw zs), .p (arrLaw 8 zs off 1 8 = arrLaw 8 zs off 2 0), .eqN g1 g1, .orN 32 128 (off + 32) zs.length, .eqN g1 g1, .eqN g g, .eqN g1 g1, .eqN g1 g1, .p (addO off 24 = off + 24), .leN (off + 128) zs.length, .p (BsLaw zs), .p (arrLaw 8 zs off 2 8 = arrLaw
 8 zs off 3 0), .eqN g1 g1, .orN 40 128 (off + 40) zs.length, .eqN g1 g1, .eqN g g, .eqN g1 g1, .eqN g1 g1, .p (addO off 32 = off + 32), .leN (off + 128) zs.length, .p (BsLaw zs), .p (arrLaw 8 zs off 3 8 = arrLaw 8 zs off 4 0), .eqN g1 g1, .orN 48 128 (off + 48) zs.length, .eqN g1 g1, .eqN g g, .eqN g1 g1, .eqN g1 g1, .p (addO off 40 = off + 40), .leN (off + 128) zs.length, .p (BsLaw zs), .p (arrLaw
 8 zs off 4 8 = arrLaw 8 zs off 5 0), .eqN g1 g1, .orN 56 128 (off + 56) zs.length, .eqN g1 g1, .eqN g g, .eqN g1 g1, .eqN g1 g1, .p (addO off 48 = off + 48), .leN (off + 128) zs.length, .p (BsLaw zs), .p (arrLaw 8 zs off 5 8 = arrLaw 8 zs off 6 0), .eqN g1 g1, .orN 64 128 (off + 64) zs.length, .eqN g1 g1, .eqN g g, .eqN g1 g1, .eqN g1 g1, .p (addO off 56 = off + 56), .leN (off + 128) zs.length, .p
 (BsLaw zs), .p (arrLaw 8 zs off 6 8 = arrLaw 8 zs off 7 0), .eqN g1 g1, .orN 72 128 (off + 72) zs.length, .eqN g1 g1, .eqN g g, .eqN g1 g1, .eqN g1 g1, .p (addO off 64 = off + 64), .leN (off + 128) zs.length, .p (BsLaw zs), .p (arrLaw 8 zs off 7 8 = arrLaw 8 zs off 8 0), .eqN g1 g1, .orN 80 128 (off + 80) zs.length, .eqN g1 g1, .eqN g g, .eqN g1 g1, .eqN g1 g1, .p (addO off 72 = off + 72), .leN
 (off + 128) zs.length, .p (BsLaw zs), .p (arrLaw 8 zs off 8 8 = arrLaw 8 zs off 9 0), .eqN g1 g1, .orN 88 128 (off + 88) zs.length, .eqN g1 g1, .eqN g g, .eqN g1 g1, .eqN g1 g1, .p (addO off 80 = off + 80), .leN (off + 128) zs.length, .p (BsLaw zs), .p (arrLaw 8 zs off 9 8 = arrLaw 8 zs off 10 0), .eqN g1 g1, .orN 96 128 (off + 96) zs.length, .eqN g1 g1, .eqN g g, .eqN g1 g1, .eqN g1 g1, .p (addO
 off 88 = off + 88), .leN (off + 128) zs.length, .p (BsLaw zs), .p (arrLaw 8 zs off 10 8 = arrLaw 8 zs off 11 0), .eqN g1 g1, .orN 104 128 (off + 104) zs.length, .eqN g1 g1, .eqN g g, .eqN g1 g1, .eqN g1 g1, .p (addO off 96 = off + 96), .leN (off + 128) zs.length, .p (BsLaw zs), .p (arrLaw 8 zs off 11 8 = arrLaw 8 zs off 12 0), .eqN g1 g1, .orN 112 128 (off + 112) zs.length, .eqN g1 g1, .eqN g g,
 .eqN g1 g1, .eqN g1 g1, .p (addO off 104 = off + 104), .leN (off + 128) zs.length, .p (BsLaw zs), .p (arrLaw 8 zs off 12 8 = arrLaw 8 zs off 13 0), .eqN g1 g1, .orN 120 128 (off + 120) zs.length, .eqN g1 g1, .eqN g g, .eqN g1 g1, .eqN g1 g1, .p (addO off 112 = off + 112), .leN (off + 128) zs.length, .p (BsLaw zs), .p (arrLaw 8 zs off 13 8 = arrLaw 8 zs off 14 0), .eqN g1 g1, .orN 128 128 (off +
 128) zs.length, .eqN g1 g1, .eqN g g, .eqN g1 g1, .eqN g1 g1, .p (addO off 120 = off + 120), .leN (off + 128) zs.length, .p (BsLaw zs), .p (arrLaw 8 zs off 14 8 = arrLaw 8 zs off 15 0), .eqN g g, .p (tailLaw (arrLaw 8 zs off 15 8)), .p (WdsLaw 64 (arrLaw 8 zs off 15 8)), .eqN g g, .eqN g g, .eqN g g, .eqN g g, .eqN g g, .eqN g g, .eqN g g, .eqN g g, .p (WdsLaw 64 (wsLaw 64 18446744073709551616 [1,
 8, 7] [19, 61, 6] 80 (arrLaw 8 zs off 15 8))), .p (WdsLaw 64 [x0, x1, x2, x3, x4, x5, x6, x7]), .eqN g g, .eqN g g, .eqN g g, .eqN g g, .eqN g g, .eqN g g, .eqN g g, .eqN g g, .eqN g g, .eqN g g, .eqN g g, .eqN g g, .eqN g g, .eqN g g, .eqN g g, .eqN g g, .eqN g g, .eqN g g, .eqN g g, .eqN g g, .eqN g g, .eqN g g, .eqN g g, .eqN g g, .eqN g g, .eqN g g, .eqN g g, .eqN g g, .eqN g g, .eqN g g, .eqN
 g g, .eqN g g, .eqN g g, .eqN g g, .eqN g g, .eqN g g, .eqN g g, .eqN g g, .eqN g g, .eqN g g, .eqN g g, .eqN g g, .eqN g g, .eqN g g, .eqN g g, .eqN g g, .eqN g g, .eqN g g, .eqN g g, .eqN g g, .eqN g g, .eqN g g, .eqN g g, .eqN g g, .eqN g g, .eqN g g, .eqN g g, .eqN g g, .eqN g g, .eqN g g, .eqN g g, .eqN g g, .eqN g g, .eqN g g]) : OkR (R51 off x0 x1 x2 x3 x4 x5 x6 x7 zs g g1 e1 ow1) := OkR.dem
 (fl := bitsF 590 2938260225140539229620652563862794769005073937329269980115612689954969734996059937441785649617964357826829457443517600380832151966184015564917377100393102529997953361048870858736) (by kernel_rfl) (by kernel_rfl) (by kernel_rfl) h
theorem R51_val {off : Nat} {x0 x1 x2 x3 x4 x5 x6 x7 : Int} {zs : List Int} {g g1 e1 : Nat} {ow1 : Bool} : (R51 off x0 x1 x2 x3 x4 x5 x6 x7 zs g g1 e1 ow1).val = .tuple [] := by kernel_rfl
theorem R51_tab {off : Nat} {x0 x1 x2 x3 x4 x5 x6 x7 : Int} {zs : List Int} {g g1 e1 : Nat} {ow1 : Bool} : (R51 off x0 x1 x2 x3 x4 x5 x6 x7 zs g g1 e1 ow1).tab = [some ⟨.agg [.int .i64 64, .int .i64 80, .int .i64 1, .int .i64 8, .int .i64 7, .int .i64 19, .int .i64 61, .int .i64 6, .int .i64 28, .int .i64 34, .int .i64 39, .int .i64 14, .int .i64 18, .int .i64 41, .int .u64 ((x0 + rndAtLaw 64
 18446744073709551616 [28, 34, 39] [14, 18, 41] (wsLaw 64 18446744073709551616 [1, 8, 7] [19, 61, 6] 80 (arrLaw 8 zs off 15 8)) [x0, x1, x2, x3, x4, x5, x6, x7] 80 0) % 18446744073709551616), .int .u64 ((x1 + rndAtLaw 64 18446744073709551616 [28, 34, 39] [14, 18, 41] (wsLaw 64 18446744073709551616 [1, 8, 7] [19, 61, 6] 80 (arrLaw 8 zs off 15 8)) [x0, x1, x2, x3, x4, x5, x6, x7] 80 1) %
 18446744073709551616), .int .u64 ((x2 + rndAtLaw 64 18446744073709551616 [28, 34, 39] [14, 18, 41] (wsLaw 64 18446744073709551616 [1, 8, 7] [19, 61, 6] 80 (arrLaw 8 zs off 15 8)) [x0, x1, x2, x3, x4, x5, x6, x7] 80 2) % 18446744073709551616), .int .u64 ((x3 + rndAtLaw 64 18446744073709551616 [28, 34, 39] [14, 18, 41] (wsLaw 64 18446744073709551616 [1, 8, 7] [19, 61, 6] 80 (arrLaw 8 zs off 15 8))
 [x0, x1, x2, x3, x4, x5, x6, x7] 80 3) % 18446744073709551616), .int .u64 ((x4 + rndAtLaw 64 18446744073709551616 [28, 34, 39] [14, 18, 41] (wsLaw 64 18446744073709551616 [1, 8, 7] [19, 61, 6] 80 (arrLaw 8 zs off 15 8)) [x0, x1, x2, x3, x4, x5, x6, x7] 80 4) % 18446744073709551616), .int .u64 ((x5 + rndAtLaw 64 18446744073709551616 [28, 34, 39] [14, 18, 41] (wsLaw 64 18446744073709551616 [1, 8, 7]
 [19, 61, 6] 80 (arrLaw 8 zs off 15 8)) [x0, x1, x2, x3, x4, x5, x6, x7] 80 5) % 18446744073709551616), .int .u64 ((x6 + rndAtLaw 64 18446744073709551616 [28, 34, 39] [14, 18, 41] (wsLaw 64 18446744073709551616 [1, 8, 7] [19, 61, 6] 80 (arrLaw 8 zs off 15 8)) [x0, x1, x2, x3, x4, x5, x6, x7] 80 6) % 18446744073709551616), .int .u64 ((x7 + rndAtLaw 64 18446744073709551616 [28, 34, 39] [14, 18, 41]
 (wsLaw 64 18446744073709551616 [1, 8, 7] [19, 61, 6] 80 (arrLaw 8 zs off 15 8)) [x0, x1, x2, x3, x4, x5, x6, x7] 80 7) % 18446744073709551616)], g, true, 73⟩, some ⟨.ints .u8 zs, g1, ow1, e1⟩, some ⟨.ints .u64 (wsLaw 64 18446744073709551616 [1, 8, 7] [19, 61, 6] 80 (arrLaw 8 zs off 15 8)), 0, true, 79⟩, some ⟨.agg [.int .u64 (rndAtLaw 64 18446744073709551616 [28, 34, 39] [14, 18, 41] (wsLaw 64
 18446744073709551616 [1, 8, 7] [19, 61, 6] 80 (arrLaw 8 zs off 15 8)) [x0, x1, x2, x3, x4, x5, x6, x7] 80 0), .int .u64 (rndAtLaw 64 18446744073709551616 [28, 34, 39] [14, 18, 41] (wsLaw 64 18446744073709551616 [1, 8, 7] [19, 61, 6] 80 (arrLaw 8 zs off 15 8)) [x0, x1, x2, x3, x4, x5, x6, x7] 80 1), .int .u64 (rndAtLaw 64 18446744073709551616 [28, 34, 39] [14, 18, 41] (wsLaw 64 18446744073709551616
 [1, 8, 7] [19, 61, 6] 80 (arrLaw 8 zs off 15 8)) [x0, x1, x2, x3, x4, x5, x6, x7] 80 2), .int .u64 (rndAtLaw 64 18446744073709551616 [28, 34, 39] [14, 18, 41] (wsLaw 64 18446744073709551616 [1, 8, 7] [19, 61, 6] 80 (arrLaw 8 zs off 15 8)) [x0, x1, x2, x3, x4, x5, x6, x7] 80 3), .int .u64 (rndAtLaw 64 18446744073709551616 [28, 34, 39] [14, 18, 41] (wsLaw 64 18446744073709551616 [1, 8, 7] [19, 61, 6]
 80 (arrLaw 8 zs off 15 8)) [x0, x1, x2, x3, x4, x5, x6, x7] 80 4), .int .u64 (rndAtLaw 64 18446744073709551616 [28, 34, 39] [14, 18, 41] (wsLaw 64 18446744073709551616 [1, 8, 7] [19, 61, 6] 80 (arrLaw 8 zs off 15 8)) [x0, x1, x2, x3, x4, x5, x6, x7] 80 5), .int .u64 (rndAtLaw 64 18446744073709551616 [28, 34, 39] [14, 18, 41] (wsLaw 64 18446744073709551616 [1, 8, 7] [19, 61, 6] 80 (arrLaw 8 zs off
 15 8)) [x0, x1, x2, x3, x4, x5, x6, x7] 80 6), .int .u64 (rndAtLaw 64 18446744073709551616 [28, 34, 39] [14, 18, 41] (wsLaw 64 18446744073709551616 [1, 8, 7] [19, 61, 6] 80 (arrLaw 8 zs off 15 8)) [x0, x1, x2, x3, x4, x5, x6, x7] 80 7)], 0, true, 71⟩] := by kernel_rfl
end Go.Abs

set_option linter.unusedVariables false
set_option linter.unusedSimpArgs false
set_option maxRecDepth 8000
namespace Go.Abs
open Go.Proofs Go.Proofs.Tryd
/-! ### a block's contract -/
def blkAtLaw (W n : Nat) (m : Int) (l0 l1 u0 u1 : List Int) (R : Nat) (zs : List Int) (off : Nat) (xs : List Int) (j : Nat) : Int :=
  (xs.getD j 0 + rndAtLaw W m u0 u1 (wsLaw W m l0 l1 R (arrLaw n zs off 15 n)) xs R j) % m
theorem arr_wds {W n : Nat} (hn : (256 : Int) ^ n ≤ 2 ^ W) {zs : List Int} (hb : BsLaw zs) {off : Nat} : Wds W (arrLaw n zs off 15 n) := by
  rw [arrLaw_end]
  refine Wds.append (fun i => ?_) (Wds.zeros W 64)
  unfold wordsLaw
  rw [List.getD_eq_getElem?_getD, List.getElem?_map]
  cases h : (List.range 16)[i]? with
  | none => exact Wd.zero W
  | some j =>
    have := wdLaw_rng hb (off + n * j) n
    exact ⟨this.1, Int.lt_of_lt_of_le this.2 hn⟩
theorem arr_tail {n : Nat} {zs : List Int} {off : Nat} : tailLaw (arrLaw n zs off 15 n) := by
  rw [arrLaw_end]
  refine ⟨by simp [wordsLaw_len], ?_⟩
  rw [List.drop_append, List.drop_of_length_le (by rw [wordsLaw_len]; exact Nat.le_refl _), wordsLaw_len]
  rfl
theorem ws_wds {W : Nat} {m : Int} (hm : m = 2 ^ W) {l0 l1 : List Int} {R : Nat} {ws : List Int} (h : Wds W ws) : Wds W (wsLaw W m l0 l1 R ws) := by
  refine Wds.append (schLaw_wds hm (fun i => ?_) _) (Wds.zeros W _)
  rw [List.getD_eq_getElem?_getD, List.getElem?_take]
  split
  · have := h i; rwa [List.getD_eq_getElem?_getD] at this
  · exact Wd.zero W
def bkLaw32 (zs : List Int) (off : Nat) (xs : List Int) (j : Nat) : Int := blkAtLaw 32 4 4294967296 [7, 18, 3] [17, 19, 10] [2, 13, 22] [6, 11, 25] 64 zs off xs j
theorem bkLaw32_wd (zs : List Int) (off : Nat) (xs : List Int) (j : Nat) : Wd 32 (bkLaw32 zs off xs j) := by
  unfold bkLaw32 blkAtLaw
  rw [show (4294967296 : Int) = 2 ^ 32 by decide]
  exact Wd.mod _ _
def sm45 : Summary := fun args T => match args, T with
  | [.var 0 g, .slice 1 1 g1 off 64 none], [some ⟨.agg [.int .i64 32, .int .i64 64, .int .i64 7, .int .i64 18, .int .i64 3, .int .i64 17, .int .i64 19, .int .i64 10, .int .i64 2, .int .i64 13, .int .i64 22, .int .i64 6, .int .i64 11, .int .i64 25, .int .u32 x0, .int .u32 x1, .int .u32 x2, .int .u32 x3, .int .u32 x4, .int .u32 x5, .int .u32 x6, .int .u32 x7], g', true, 64⟩, some ⟨.ints .u8 zs, g1', ow1, 5⟩] => ⟨[.eqN g g', .eqN g1 g1', .leN (off + 64) zs.length, .p (BsLaw zs), .p (WdsLaw 32 [x0, x1, x2, x3, x4, x5, x6, x7])], .tuple [],
      [some ⟨.agg [.int .i64 32, .int .i64 64, .int .i64 7, .int .i64 18, .int .i64 3, .int .i64 17, .int .i64 19, .int .i64 10, .int .i64 2, .int .i64 13, .int .i64 22, .int .i64 6, .int .i64 11, .int .i64 25, .int .u32 (bkLaw32 zs off [x0, x1, x2, x3, x4, x5, x6, x7] 0), .int .u32 (bkLaw32 zs off [x0, x1, x2, x3, x4, x5, x6, x7] 1), .int .u32 (bkLaw32 zs off [x0, x1, x2, x3, x4, x5, x6, x7] 2), .int .u32 (bkLaw32 zs off [x0, x1, x2, x3, x4, x5, x6, x7] 3), .int .u32 (bkLaw32 zs off [x0, x1, x2, x3, x4, x5, x6, x7] 4), .int .u32 (bkLaw32 zs off [x0, x1, x2, x3, x4, x5, x6, x7] 5), .int .u32 (bkLaw32 zs off [x0, x1, x2, x3, x4, x5, x6, x7] 6), .int .u32 (bkLaw32 zs off [x0, x1, x2, x3, x4, x5, x6, x7] 7)], g', true, 64⟩, some ⟨.ints .u8 zs, g1', ow1, 5⟩]⟩
  | _, _ => fail
theorem sm45_ok : SmOk prog glS 45 sm45 := by
  intro args T hc
  unfold sm45 at hc ⊢
  split at hc
  · rename_i g g1 off x0 x1 x2 x3 x4 x5 x6 x7 g' zs g1' ow1
    obtain ⟨h1, h2, h3, h4, h5, _⟩ := hc
    simp only [Con.h] at h1 h2 h3 h4 h5
    subst h1 h2
    refine small_drop (small_of (R := R45 off x0 x1 x2 x3 x4 x5 x6 x7 zs g g1 5 ow1) eV32_ok hmS (f := 45) (fn := f45) (by kernel_rfl) (by kernel_rfl) orc45_ok rfl (R45_ok ?_) R45_val R45_tab)
    have q1 : WdsLaw 32 (arrLaw 4 zs off 15 4) := arr_wds (by decide) h4
    have q2 : WdsLaw 32 (wsLaw 32 4294967296 [7, 18, 3] [17, 19, 10] 64 (arrLaw 4 zs off 15 4)) := ws_wds (by decide) q1
    have q3 : tailLaw (arrLaw 4 zs off 15 4) := arr_tail
    have a0 : arrLaw 4 zs off 0 4 = arrLaw 4 zs off 1 0 := arrLaw_next (by omega)
    have a1 : arrLaw 4 zs off 1 4 = arrLaw 4 zs off 2 0 := arrLaw_next (by omega)
    have a2 : arrLaw 4 zs off 2 4 = arrLaw 4 zs off 3 0 := arrLaw_next (by omega)
    have a3 : arrLaw 4 zs off 3 4 = arrLaw 4 zs off 4 0 := arrLaw_next (by omega)
    have a4 : arrLaw 4 zs off 4 4 = arrLaw 4 zs off 5 0 := arrLaw_next (by omega)
    have a5 : arrLaw 4 zs off 5 4 = arrLaw 4 zs off 6 0 := arrLaw_next (by omega)
    have a6 : arrLaw 4 zs off 6 4 = arrLaw 4 zs off 7 0 := arrLaw_next (by omega)
    have a7 : arrLaw 4 zs off 7 4 = arrLaw 4 zs off 8 0 := arrLaw_next (by omega)
    have a8 : arrLaw 4 zs off 8 4 = arrLaw 4 zs off 9 0 := arrLaw_next (by omega)
    have a9 : arrLaw 4 zs off 9 4 = arrLaw 4 zs off 10 0 := arrLaw_next (by omega)
    have a10 : arrLaw 4 zs off 10 4 = arrLaw 4 zs off 11 0 := arrLaw_next (by omega)
    have a11 : arrLaw 4 zs off 11 4 = arrLaw 4 zs off 12 0 := arrLaw_next (by omega)
    have a12 : arrLaw 4 zs off 12 4 = arrLaw 4 zs off 13 0 := arrLaw_next (by omega)
    have a13 : arrLaw 4 zs off 13 4 = arrLaw 4 zs off 14 0 := arrLaw_next (by omega)
    have a14 : arrLaw 4 zs off 14 4 = arrLaw 4 zs off 15 0 := arrLaw_next (by omega)
    simp only [allP, Con.h, q1, q2, q3, h4, h5, a0, a1, a2, a3, a4, a5, a6, a7, a8, a9, a10, a11, a12, a13, a14, addO_eq, eq_self, true_and, and_true]
    have q0 : List.replicate 80 (0 : Int) = arrLaw 4 zs off 0 0 := rfl
    repeat' with_reducible apply And.intro
    all_goals first | omega | exact q0
  · exact absurd hc nofail
def S45 : Summary := callR sm45 [true, false]
theorem S45_ok : SumOk prog glS 45 S45 := callR_ok sm45_ok [true, false]
def bkLaw64 (zs : List Int) (off : Nat) (xs : List Int) (j : Nat) : Int := blkAtLaw 64 8 18446744073709551616 [1, 8, 7] [19, 61, 6] [28, 34, 39] [14, 18, 41] 80 zs off xs j
theorem bkLaw64_wd (zs : List Int) (off : Nat) (xs : List Int) (j : Nat) : Wd 64 (bkLaw64 zs off xs j) := by
  unfold bkLaw64 blkAtLaw
  rw [show (18446744073709551616 : Int) = 2 ^ 64 by decide]
  exact Wd.mod _ _
def sm51 : Summary := fun args T => match args, T with
  | [.var 0 g, .slice 1 1 g1 off 128 none], [some ⟨.agg [.int .i64 64, .int .i64 80, .int .i64 1, .int .i64 8, .int .i64 7, .int .i64 19, .int .i64 61, .int .i64 6, .int .i64 28, .int .i64 34, .int .i64 39, .int .i64 14, .int .i64 18, .int .i64 41, .int .u64 x0, .int .u64 x1, .int .u64 x2, .int .u64 x3, .int .u64 x4, .int .u64 x5, .int .u64 x6, .int .u64 x7], g', true, 73⟩, some ⟨.ints .u8 zs, g1', ow1, 5⟩] => ⟨[.eqN g g', .eqN g1 g1', .leN (off + 128) zs.length, .p (BsLaw zs), .p (WdsLaw 64 [x0, x1, x2, x3, x4, x5, x6, x7])], .tuple [],
      [some ⟨.agg [.int .i64 64, .int .i64 80, .int .i64 1, .int .i64 8, .int .i64 7, .int .i64 19, .int .i64 61, .int .i64 6, .int .i64 28, .int .i64 34, .int .i64 39, .int .i64 14, .int .i64 18, .int .i64 41, .int .u64 (bkLaw64 zs off [x0, x1, x2, x3, x4, x5, x6, x7] 0), .int .u64 (bkLaw64 zs off [x0, x1, x2, x3, x4, x5, x6, x7] 1), .int .u64 (bkLaw64 zs off [x0, x1, x2, x3, x4, x5, x6, x7] 2), .int .u64 (bkLaw64 zs off [x0, x1, x2, x3, x4, x5, x6, x7] 3), .int .u64 (bkLaw64 zs off [x0, x1, x2, x3, x4, x5, x6, x7] 4), .int .u64 (bkLaw64 zs off [x0, x1, x2, x3, x4, x5, x6, x7] 5), .int .u64 (bkLaw64 zs off [x0, x1, x2, x3, x4, x5, x6, x7] 6), .int .u64 (bkLaw64 zs off [x0, x1, x2, x3, x4, x5, x6, x7] 7)], g', true, 73⟩, some ⟨.ints .u8 zs, g1', ow1, 5⟩]⟩
  | _, _ => fail
theorem sm51_ok : SmOk prog glS 51 sm51 := by
  intro args T hc
  unfold sm51 at hc ⊢
  split at hc
  · rename_i g g1 off x0 x1 x2 x3 x4 x5 x6 x7 g' zs g1' ow1
    obtain ⟨h1, h2, h3, h4, h5, _⟩ := hc
    simp only [Con.h] at h1 h2 h3 h4 h5
    subst h1 h2
    refine small_drop (small_of (R := R51 off x0 x1 x2 x3 x4 x5 x6 x7 zs g g1 5 ow1) eV64_ok hmS (f := 51) (fn := f51) (by kernel_rfl) (by kernel_rfl) orc51_ok rfl (R51_ok ?_) R51_val R51_tab)
    have q1 : WdsLaw 64 (arrLaw 8 zs off 15 8) := arr_wds (by decide) h4
    have q2 : WdsLaw 64 (wsLaw 64 18446744073709551616 [1, 8, 7] [19, 61, 6] 80 (arrLaw 8 zs off 15 8)) := ws_wds (by decide) q1
    have q3 : tailLaw (arrLaw 8 zs off 15 8) := arr_tail
    have a0 : arrLaw 8 zs off 0 8 = arrLaw 8 zs off 1 0 := arrLaw_next (by omega)
    have a1 : arrLaw 8 zs off 1 8 = arrLaw 8 zs off 2 0 := arrLaw_next (by omega)
    have a2 : arrLaw 8 zs off 2 8 = arrLaw 8 zs off 3 0 := arrLaw_next (by omega)
    have a3 : arrLaw 8 zs off 3 8 = arrLaw 8 zs off 4 0 := arrLaw_next (by omega)
    have a4 : arrLaw 8 zs off 4 8 = arrLaw 8 zs off 5 0 := arrLaw_next (by omega)
    have a5 : arrLaw 8 zs off 5 8 = arrLaw 8 zs off 6 0 := arrLaw_next (by omega)
    have a6 : arrLaw 8 zs off 6 8 = arrLaw 8 zs off 7 0 := arrLaw_next (by omega)
    have a7 : arrLaw 8 zs off 7 8 = arrLaw 8 zs off 8 0 := arrLaw_next (by omega)
    have a8 : arrLaw 8 zs off 8 8 = arrLaw 8 zs off 9 0 := arrLaw_next (by omega)
    have a9 : arrLaw 8 zs off 9 8 = arrLaw 8 zs off 10 0 := arrLaw_next (by omega)
    have a10 : arrLaw 8 zs off 10 8 = arrLaw 8 zs off 11 0 := arrLaw_next (by omega)
    have a11 : arrLaw 8 zs off 11 8 = arrLaw 8 zs off 12 0 := arrLaw_next (by omega)
    have a12 : arrLaw 8 zs off 12 8 = arrLaw 8 zs off 13 0 := arrLaw_next (by omega)
    have a13 : arrLaw 8 zs off 13 8 = arrLaw 8 zs off 14 0 := arrLaw_next (by omega)
    have a14 : arrLaw 8 zs off 14 8 = arrLaw 8 zs off 15 0 := arrLaw_next (by omega)
    simp only [allP, Con.h, q1, q2, q3, h4, h5, a0, a1, a2, a3, a4, a5, a6, a7, a8, a9, a10, a11, a12, a13, a14, addO_eq, eq_self, true_and, and_true]
    have q0 : List.replicate 80 (0 : Int) = arrLaw 8 zs off 0 0 := rfl
    repeat' with_reducible apply And.intro
    all_goals first | omega | exact q0
  · exact absurd hc nofail
def S51 : Summary := callR sm51 [true, false]
theorem S51_ok : SumOk prog glS 51 S51 := callR_ok sm51_ok [true, false]
end Go.Abs

set_option linter.unusedVariables false
set_option linter.unusedSimpArgs false
set_option maxRecDepth 8000
namespace Go.Abs
open Go.Proofs Go.Proofs.Tryd
noncomputable def S44 : Summary := sumI modeO (eS0 []) f44 [] 1000 [] []
theorem S44_ok : SumOk prog glS 44 S44 := sumI_ok eS0_ok hmS (fn := f44) (by kernel_rfl) (by kernel_rfl) [] FnOrc.nil 1000 [] []
noncomputable def eX32 : Env := eS0 [(44, S44), (45, S45)]
theorem eX32_ok : EnvOk eX32 := envOf_ok tysS_ok (SumsOk.cons (fn := f44) S44_ok (by kernel_rfl) (by kernel_rfl) (by kernel_rfl) (SumsOk.cons (fn := f45) S45_ok (by kernel_rfl) (by kernel_rfl) (by kernel_rfl) trivial))
noncomputable def PA33 (len : Int) (m : Nat) (x0 x1 x2 x3 x4 x5 x6 x7 : Int) (zs xs : List Int) (g g4 : Nat) (ow : Bool) : Out := trim 5 5 [1,2,5,6,7] (run eX32 89 ⟨5, []⟩ 400 (roundOf 0 f33) [(1, .slice 1 4 g4 0 m none), (2, .var 1 0), (5, .var 2 0), (6, .int .i64 64), (7, .int .u64 len)] [some ⟨.ints .u8 zs, g, ow, 5⟩, some ⟨.ints .i64 [32, 64, 7, 18, 3, 17, 19, 10, 2, 13, 22, 6, 11, 25], 0, true, 50⟩, some ⟨.agg [.int .i64 32, .int .i64 64, .int .i64 7, .int .i64 18, .int .i64 3, .int .i64 17, .int .i64 19, .int .i64 10, .int .i64 2, .int .i64 13, .int .i64 22, .int .i64 6, .int .i64 11, .int .i64 25, .int .u32 x0, .int .u32 x1, .int .u32 x2, .int .u32 x3, .int .u32 x4, .int .u32 x5, .int .u32 x6, .int .u32 x7], 0, true, 64⟩, some ⟨.ints .u8 [128], 0, true, 5⟩, some ⟨.ints .u8 xs, g4, true, 5⟩] [some true])
theorem PA33_ok {len : Int} {m : Nat} {x0 x1 x2 x3 x4 x5 x6 x7 : Int} {zs xs : List Int} {g g4 : Nat} {ow : Bool} (h : allP [.eqN g4 g4, .p (((↑m : Int).tmod 64 != 56) = true), .eqN g4 g4, .leN (0 + m) xs.length, .leN (addO m 1) 140737488355328]) : Ok (PA33 len m x0 x1 x2 x3 x4 x5 x6 x7 zs xs g g4 ow) := Ok.dem (fl := bitsF 15 29150) (by kernel_rfl) (by kernel_rfl) (by kernel_rfl) h
theorem PA33_ex {len : Int} {m : Nat} {x0 x1 x2 x3 x4 x5 x6 x7 : Int} {zs xs : List Int} {g g4 : Nat} {ow : Bool} : (PA33 len m x0 x1 x2 x3 x4 x5 x6 x7 zs xs g g4 ow).ex = .normal := by kernel_rfl
theorem PA33_fm {len : Int} {m : Nat} {x0 x1 x2 x3 x4 x5 x6 x7 : Int} {zs xs : List Int} {g g4 : Nat} {ow : Bool} : (PA33 len m x0 x1 x2 x3 x4 x5 x6 x7 zs xs g g4 ow).fm = [(1, .slice 1 4 (g4 + 1) 0 (addO m 1) none), (2, .var 1 0), (5, .var 2 0), (6, .int .i64 64), (7, .int .u64 len)] := by kernel_rfl
theorem PA33_tab {len : Int} {m : Nat} {x0 x1 x2 x3 x4 x5 x6 x7 : Int} {zs xs : List Int} {g g4 : Nat} {ow : Bool} : (PA33 len m x0 x1 x2 x3 x4 x5 x6 x7 zs xs g g4 ow).tab = [some ⟨.ints .u8 zs, g, ow, 5⟩, some ⟨.ints .i64 [32, 64, 7, 18, 3, 17, 19, 10, 2, 13, 22, 6, 11, 25], 0, true, 50⟩, some ⟨.agg [.int .i64 32, .int .i64 64, .int .i64 7, .int .i64 18, .int .i64 3, .int .i64 17, .int .i64 19,
 .int .i64 10, .int .i64 2, .int .i64 13, .int .i64 22, .int .i64 6, .int .i64 11, .int .i64 25, .int .u32 x0, .int .u32 x1, .int .u32 x2, .int .u32 x3, .int .u32 x4, .int .u32 x5, .int .u32 x6, .int .u32 x7], 0, true, 64⟩, some ⟨.ints .u8 [128], 0, true, 5⟩, some ⟨.ints .u8 (List.take m xs ++ [0]), g4 + 1, true, 5⟩] := by kernel_rfl
noncomputable def PB33 (len : Int) (m : Nat) (x0 x1 x2 x3 x4 x5 x6 x7 : Int) (zs xs : List Int) (g g4 : Nat) (ow : Bool) : Out := trim 5 5 [1,2,5,6,7] (run eX32 89 ⟨5, []⟩ 400 (roundOf 0 f33) [(1, .slice 1 4 g4 0 m none), (2, .var 1 0), (5, .var 2 0), (6, .int .i64 64), (7, .int .u64 len)] [some ⟨.ints .u8 zs, g, ow, 5⟩, some ⟨.ints .i64 [32, 64, 7, 18, 3, 17, 19, 10, 2, 13, 22, 6, 11, 25], 0, true, 50⟩, some ⟨.agg [.int .i64 32, .int .i64 64, .int .i64 7, .int .i64 18, .int .i64 3, .int .i64 17, .int .i64 19, .int .i64 10, .int .i64 2, .int .i64 13, .int .i64 22, .int .i64 6, .int .i64 11, .int .i64 25, .int .u32 x0, .int .u32 x1, .int .u32 x2, .int .u32 x3, .int .u32 x4, .int .u32 x5, .int .u32 x6, .int .u32 x7], 0, true, 64⟩, some ⟨.ints .u8 [128], 0, true, 5⟩, some ⟨.ints .u8 xs, g4, true, 5⟩] [some false])
theorem PB33_ok {len : Int} {m : Nat} {x0 x1 x2 x3 x4 x5 x6 x7 : Int} {zs xs : List Int} {g g4 : Nat} {ow : Bool} (h : allP [.eqN g4 g4, .p (((↑m : Int).tmod 64 != 56) = false)]) : Ok (PB33 len m x0 x1 x2 x3 x4 x5 x6 x7 zs xs g g4 ow) := Ok.dem (fl := [false, true, true, true, true, false]) (by kernel_rfl) (by kernel_rfl) (by kernel_rfl) h
theorem PB33_ex {len : Int} {m : Nat} {x0 x1 x2 x3 x4 x5 x6 x7 : Int} {zs xs : List Int} {g g4 : Nat} {ow : Bool} : (PB33 len m x0 x1 x2 x3 x4 x5 x6 x7 zs xs g g4 ow).ex = .exit 0 := by kernel_rfl
theorem PB33_fm {len : Int} {m : Nat} {x0 x1 x2 x3 x4 x5 x6 x7 : Int} {zs xs : List Int} {g g4 : Nat} {ow : Bool} : (PB33 len m x0 x1 x2 x3 x4 x5 x6 x7 zs xs g g4 ow).fm = [(1, .slice 1 4 g4 0 m none), (2, .var 1 0), (5, .var 2 0), (6, .int .i64 64), (7, .int .u64 len)] := by kernel_rfl
theorem PB33_tab {len : Int} {m : Nat} {x0 x1 x2 x3 x4 x5 x6 x7 : Int} {zs xs : List Int} {g g4 : Nat} {ow : Bool} : (PB33 len m x0 x1 x2 x3 x4 x5 x6 x7 zs xs g g4 ow).tab = [some ⟨.ints .u8 zs, g, ow, 5⟩, some ⟨.ints .i64 [32, 64, 7, 18, 3, 17, 19, 10, 2, 13, 22, 6, 11, 25], 0, true, 50⟩, some ⟨.agg [.int .i64 32, .int .i64 64, .int .i64 7, .int .i64 18, .int .i64 3, .int .i64 17, .int .i64 19,
 .int .i64 10, .int .i64 2, .int .i64 13, .int .i64 22, .int .i64 6, .int .i64 11, .int .i64 25, .int .u32 x0, .int .u32 x1, .int .u32 x2, .int .u32 x3, .int .u32 x4, .int .u32 x5, .int .u32 x6, .int .u32 x7], 0, true, 64⟩, some ⟨.ints .u8 [128], 0, true, 5⟩, some ⟨.ints .u8 xs, g4, true, 5⟩] := by kernel_rfl
noncomputable def PE33 (off m : Nat) (x0 x1 x2 x3 x4 x5 x6 x7 : Int) (zs xs : List Int) (g g4 : Nat) (ow : Bool) : Out := trim 5 5 [1,2,5,6] (run eX32 89 ⟨5, []⟩ 400 (roundOf 4 f33) [(1, .slice 1 4 g4 off m none), (2, .var 1 0), (5, .var 2 0), (6, .int .i64 64)] [some ⟨.ints .u8 zs, g, ow, 5⟩, some ⟨.ints .i64 [32, 64, 7, 18, 3, 17, 19, 10, 2, 13, 22, 6, 11, 25], 0, true, 50⟩, some ⟨.agg [.int .i64 32, .int .i64 64, .int .i64 7, .int .i64 18, .int .i64 3, .int .i64 17, .int .i64 19, .int .i64 10, .int .i64 2, .int .i64 13, .int .i64 22, .int .i64 6, .int .i64 11, .int .i64 25, .int .u32 x0, .int .u32 x1, .int .u32 x2, .int .u32 x3, .int .u32 x4, .int .u32 x5, .int .u32 x6, .int .u32 x7], 0, true, 64⟩, some ⟨.ints .u8 [128], 0, true, 5⟩, some ⟨.ints .u8 xs, g4, true, 5⟩] [some true])
theorem PE33_ok {off m : Nat} {x0 x1 x2 x3 x4 x5 x6 x7 : Int} {zs xs : List Int} {g g4 : Nat} {ow : Bool} (h : allP [.eqN g4 g4, .p (decide (0 < (↑m : Int)) = true), .eqN g4 g4, .orN 64 m (off + 64) xs.length, .eqN g4 g4, .eqN g4 g4, .leN (addO off 0 + 64) xs.length, .p (BsLaw xs), .p (WdsLaw 32 [x0, x1, x2, x3, x4, x5, x6, x7]), .eqN g4 g4, .leN 64 m]) : Ok (PE33 off m x0 x1 x2 x3 x4 x5 x6 x7 zs
 xs g g4 ow) := Ok.dem (fl := bitsF 15 4244) (by kernel_rfl) (by kernel_rfl) (by kernel_rfl) h
theorem PE33_ex {off m : Nat} {x0 x1 x2 x3 x4 x5 x6 x7 : Int} {zs xs : List Int} {g g4 : Nat} {ow : Bool} : (PE33 off m x0 x1 x2 x3 x4 x5 x6 x7 zs xs g g4 ow).ex = .normal := by kernel_rfl
theorem PE33_fm {off m : Nat} {x0 x1 x2 x3 x4 x5 x6 x7 : Int} {zs xs : List Int} {g g4 : Nat} {ow : Bool} : (PE33 off m x0 x1 x2 x3 x4 x5 x6 x7 zs xs g g4 ow).fm = [(1, .slice 1 4 g4 (addO off 64) (m - 64) none), (2, .var 1 0), (5, .var 2 0), (6, .int .i64 64)] := by kernel_rfl
theorem PE33_tab {off m : Nat} {x0 x1 x2 x3 x4 x5 x6 x7 : Int} {zs xs : List Int} {g g4 : Nat} {ow : Bool} : (PE33 off m x0 x1 x2 x3 x4 x5 x6 x7 zs xs g g4 ow).tab = [some ⟨.ints .u8 zs, g, ow, 5⟩, some ⟨.ints .i64 [32, 64, 7, 18, 3, 17, 19, 10, 2, 13, 22, 6, 11, 25], 0, true, 50⟩, some ⟨.agg [.int .i64 32, .int .i64 64, .int .i64 7, .int .i64 18, .int .i64 3, .int .i64 17, .int .i64 19, .int .i64
 10, .int .i64 2, .int .i64 13, .int .i64 22, .int .i64 6, .int .i64 11, .int .i64 25, .int .u32 (blkAtLaw 32 4 4294967296 [7, 18, 3] [17, 19, 10] [2, 13, 22] [6, 11, 25] 64 xs (addO off 0) [x0, x1, x2, x3, x4, x5, x6, x7] 0), .int .u32 (blkAtLaw 32 4 4294967296 [7, 18, 3] [17, 19, 10] [2, 13, 22] [6, 11, 25] 64 xs (addO off 0) [x0, x1, x2, x3, x4, x5, x6, x7] 1), .int .u32 (blkAtLaw 32 4 4294967296
 [7, 18, 3] [17, 19, 10] [2, 13, 22] [6, 11, 25] 64 xs (addO off 0) [x0, x1, x2, x3, x4, x5, x6, x7] 2), .int .u32 (blkAtLaw 32 4 4294967296 [7, 18, 3] [17, 19, 10] [2, 13, 22] [6, 11, 25] 64 xs (addO off 0) [x0, x1, x2, x3, x4, x5, x6, x7] 3), .int .u32 (blkAtLaw 32 4 4294967296 [7, 18, 3] [17, 19, 10] [2, 13, 22] [6, 11, 25] 64 xs (addO off 0) [x0, x1, x2, x3, x4, x5, x6, x7] 4), .int .u32
 (blkAtLaw 32 4 4294967296 [7, 18, 3] [17, 19, 10] [2, 13, 22] [6, 11, 25] 64 xs (addO off 0) [x0, x1, x2, x3, x4, x5, x6, x7] 5), .int .u32 (blkAtLaw 32 4 4294967296 [7, 18, 3] [17, 19, 10] [2, 13, 22] [6, 11, 25] 64 xs (addO off 0) [x0, x1, x2, x3, x4, x5, x6, x7] 6), .int .u32 (blkAtLaw 32 4 4294967296 [7, 18, 3] [17, 19, 10] [2, 13, 22] [6, 11, 25] 64 xs (addO off 0) [x0, x1, x2, x3, x4, x5, x6,
 x7] 7)], 0, true, 64⟩, some ⟨.ints .u8 [128], 0, true, 5⟩, some ⟨.ints .u8 xs, g4, true, 5⟩] := by kernel_rfl
noncomputable def PF33 (off m : Nat) (x0 x1 x2 x3 x4 x5 x6 x7 : Int) (zs xs : List Int) (g g4 : Nat) (ow : Bool) : Out := trim 5 5 [2,5] (run eX32 89 ⟨5, []⟩ 400 (roundOf 4 f33) [(1, .slice 1 4 g4 off m none), (2, .var 1 0), (5, .var 2 0), (6, .int .i64 64)] [some ⟨.ints .u8 zs, g, ow, 5⟩, some ⟨.ints .i64 [32, 64, 7, 18, 3, 17, 19, 10, 2, 13, 22, 6, 11, 25], 0, true, 50⟩, some ⟨.agg [.int .i64 32, .int .i64 64, .int .i64 7, .int .i64 18, .int .i64 3, .int .i64 17, .int .i64 19, .int .i64 10, .int .i64 2, .int .i64 13, .int .i64 22, .int .i64 6, .int .i64 11, .int .i64 25, .int .u32 x0, .int .u32 x1, .int .u32 x2, .int .u32 x3, .int .u32 x4, .int .u32 x5, .int .u32 x6, .int .u32 x7], 0, true, 64⟩, some ⟨.ints .u8 [128], 0, true, 5⟩, some ⟨.ints .u8 xs, g4, true, 5⟩] [some false])
theorem PF33_ok {off m : Nat} {x0 x1 x2 x3 x4 x5 x6 x7 : Int} {zs xs : List Int} {g g4 : Nat} {ow : Bool} (h : allP [.eqN g4 g4, .p (decide (0 < (↑m : Int)) = false)]) : Ok (PF33 off m x0 x1 x2 x3 x4 x5 x6 x7 zs xs g g4 ow) := Ok.dem (fl := [false, false]) (by kernel_rfl) (by kernel_rfl) (by kernel_rfl) h
theorem PF33_ex {off m : Nat} {x0 x1 x2 x3 x4 x5 x6 x7 : Int} {zs xs : List Int} {g g4 : Nat} {ow : Bool} : (PF33 off m x0 x1 x2 x3 x4 x5 x6 x7 zs xs g g4 ow).ex = .exit 4 := by kernel_rfl
theorem PF33_fm {off m : Nat} {x0 x1 x2 x3 x4 x5 x6 x7 : Int} {zs xs : List Int} {g g4 : Nat} {ow : Bool} : (PF33 off m x0 x1 x2 x3 x4 x5 x6 x7 zs xs g g4 ow).fm = [(2, .var 1 0), (5, .var 2 0)] := by kernel_rfl
theorem PF33_tab {off m : Nat} {x0 x1 x2 x3 x4 x5 x6 x7 : Int} {zs xs : List Int} {g g4 : Nat} {ow : Bool} : (PF33 off m x0 x1 x2 x3 x4 x5 x6 x7 zs xs g g4 ow).tab = [some ⟨.ints .u8 zs, g, ow, 5⟩, some ⟨.ints .i64 [32, 64, 7, 18, 3, 17, 19, 10, 2, 13, 22, 6, 11, 25], 0, true, 50⟩, some ⟨.agg [.int .i64 32, .int .i64 64, .int .i64 7, .int .i64 18, .int .i64 3, .int .i64 17, .int .i64 19, .int .i64
 10, .int .i64 2, .int .i64 13, .int .i64 22, .int .i64 6, .int .i64 11, .int .i64 25, .int .u32 x0, .int .u32 x1, .int .u32 x2, .int .u32 x3, .int .u32 x4, .int .u32 x5, .int .u32 x6, .int .u32 x7], 0, true, 64⟩, some ⟨.ints .u8 [128], 0, true, 5⟩, some ⟨.ints .u8 xs, g4, true, 5⟩] := by kernel_rfl
noncomputable def S50 : Summary := sumI modeO (eS0 []) f50 [] 1000 [] []
theorem S50_ok : SumOk prog glS 50 S50 := sumI_ok eS0_ok hmS (fn := f50) (by kernel_rfl) (by kernel_rfl) [] FnOrc.nil 1000 [] []
noncomputable def eX64 : Env := eS0 [(50, S50), (51, S51)]
theorem eX64_ok : EnvOk eX64 := envOf_ok tysS_ok (SumsOk.cons (fn := f50) S50_ok (by kernel_rfl) (by kernel_rfl) (by kernel_rfl) (SumsOk.cons (fn := f51) S51_ok (by kernel_rfl) (by kernel_rfl) (by kernel_rfl) trivial))
noncomputable def PA37 (len : Int) (m : Nat) (x0 x1 x2 x3 x4 x5 x6 x7 : Int) (zs xs : List Int) (g g4 : Nat) (ow : Bool) : Out := trim 5 5 [1,2,5,6,7] (run eX64 89 ⟨5, []⟩ 400 (roundOf 0 f37) [(1, .slice 1 4 g4 0 m none), (2, .var 1 0), (5, .var 2 0), (6, .int .i64 128), (7, .int .u64 len)] [some ⟨.ints .u8 zs, g, ow, 5⟩, some ⟨.ints .i64 [64, 80, 1, 8, 7, 19, 61, 6, 28, 34, 39, 14, 18, 41], 0, true, 50⟩, some ⟨.agg [.int .i64 64, .int .i64 80, .int .i64 1, .int .i64 8, .int .i64 7, .int .i64 19, .int .i64 61, .int .i64 6, .int .i64 28, .int .i64 34, .int .i64 39, .int .i64 14, .int .i64 18, .int .i64 41, .int .u64 x0, .int .u64 x1, .int .u64 x2, .int .u64 x3, .int .u64 x4, .int .u64 x5, .int .u64 x6, .int .u64 x7], 0, true, 73⟩, some ⟨.ints .u8 [128], 0, true, 5⟩, some ⟨.ints .u8 xs, g4, true, 5⟩] [some true])
theorem PA37_ok {len : Int} {m : Nat} {x0 x1 x2 x3 x4 x5 x6 x7 : Int} {zs xs : List Int} {g g4 : Nat} {ow : Bool} (h : allP [.eqN g4 g4, .p (((↑m : Int).tmod 128 != 112) = true), .eqN g4 g4, .leN (0 + m) xs.length, .leN (addO m 1) 140737488355328]) : Ok (PA37 len m x0 x1 x2 x3 x4 x5 x6 x7 zs xs g g4 ow) := Ok.dem (fl := bitsF 15 29150) (by kernel_rfl) (by kernel_rfl) (by kernel_rfl) h
theorem PA37_ex {len : Int} {m : Nat} {x0 x1 x2 x3 x4 x5 x6 x7 : Int} {zs xs : List Int} {g g4 : Nat} {ow : Bool} : (PA37 len m x0 x1 x2 x3 x4 x5 x6 x7 zs xs g g4 ow).ex = .normal := by kernel_rfl
theorem PA37_fm {len : Int} {m : Nat} {x0 x1 x2 x3 x4 x5 x6 x7 : Int} {zs xs : List Int} {g g4 : Nat} {ow : Bool} : (PA37 len m x0 x1 x2 x3 x4 x5 x6 x7 zs xs g g4 ow).fm = [(1, .slice 1 4 (g4 + 1) 0 (addO m 1) none), (2, .var 1 0), (5, .var 2 0), (6, .int .i64 128), (7, .int .u64 len)] := by kernel_rfl
theorem PA37_tab {len : Int} {m : Nat} {x0 x1 x2 x3 x4 x5 x6 x7 : Int} {zs xs : List Int} {g g4 : Nat} {ow : Bool} : (PA37 len m x0 x1 x2 x3 x4 x5 x6 x7 zs xs g g4 ow).tab = [some ⟨.ints .u8 zs, g, ow, 5⟩, some ⟨.ints .i64 [64, 80, 1, 8, 7, 19, 61, 6, 28, 34, 39, 14, 18, 41], 0, true, 50⟩, some ⟨.agg [.int .i64 64, .int .i64 80, .int .i64 1, .int .i64 8, .int .i64 7, .int .i64 19, .int .i64 61,
 .int .i64 6, .int .i64 28, .int .i64 34, .int .i64 39, .int .i64 14, .int .i64 18, .int .i64 41, .int .u64 x0, .int .u64 x1, .int .u64 x2, .int .u64 x3, .int .u64 x4, .int .u64 x5, .int .u64 x6, .int .u64 x7], 0, true, 73⟩, some ⟨.ints .u8 [128], 0, true, 5⟩, some ⟨.ints .u8 (List.take m xs ++ [0]), g4 + 1, true, 5⟩] := by kernel_rfl
noncomputable def PB37 (len : Int) (m : Nat) (x0 x1 x2 x3 x4 x5 x6 x7 : Int) (zs xs : List Int) (g g4 : Nat) (ow : Bool) : Out := trim 5 5 [1,2,5,6,7] (run eX64 89 ⟨5, []⟩ 400 (roundOf 0 f37) [(1, .slice 1 4 g4 0 m none), (2, .var 1 0), (5, .var 2 0), (6, .int .i64 128), (7, .int .u64 len)] [some ⟨.ints .u8 zs, g, ow, 5⟩, some ⟨.ints .i64 [64, 80, 1, 8, 7, 19, 61, 6, 28, 34, 39, 14, 18, 41], 0, true, 50⟩, some ⟨.agg [.int .i64 64, .int .i64 80, .int .i64 1, .int .i64 8, .int .i64 7, .int .i64 19, .int .i64 61, .int .i64 6, .int .i64 28, .int .i64 34, .int .i64 39, .int .i64 14, .int .i64 18, .int .i64 41, .int .u64 x0, .int .u64 x1, .int .u64 x2, .int .u64 x3, .int .u64 x4, .int .u64 x5, .int .u64 x6, .int .u64 x7], 0, true, 73⟩, some ⟨.ints .u8 [128], 0, true, 5⟩, some ⟨.ints .u8 xs, g4, true, 5⟩] [some false])
theorem PB37_ok {len : Int} {m : Nat} {x0 x1 x2 x3 x4 x5 x6 x7 : Int} {zs xs : List Int} {g g4 : Nat} {ow : Bool} (h : allP [.eqN g4 g4, .p (((↑m : Int).tmod 128 != 112) = false)]) : Ok (PB37 len m x0 x1 x2 x3 x4 x5 x6 x7 zs xs g g4 ow) := Ok.dem (fl := [false, true, true, true, true, false]) (by kernel_rfl) (by kernel_rfl) (by kernel_rfl) h
theorem PB37_ex {len : Int} {m : Nat} {x0 x1 x2 x3 x4 x5 x6 x7 : Int} {zs xs : List Int} {g g4 : Nat} {ow : Bool} : (PB37 len m x0 x1 x2 x3 x4 x5 x6 x7 zs xs g g4 ow).ex = .exit 0 := by kernel_rfl
theorem PB37_fm {len : Int} {m : Nat} {x0 x1 x2 x3 x4 x5 x6 x7 : Int} {zs xs : List Int} {g g4 : Nat} {ow : Bool} : (PB37 len m x0 x1 x2 x3 x4 x5 x6 x7 zs xs g g4 ow).fm = [(1, .slice 1 4 g4 0 m none), (2, .var 1 0), (5, .var 2 0), (6, .int .i64 128), (7, .int .u64 len)] := by kernel_rfl
theorem PB37_tab {len : Int} {m : Nat} {x0 x1 x2 x3 x4 x5 x6 x7 : Int} {zs xs : List Int} {g g4 : Nat} {ow : Bool} : (PB37 len m x0 x1 x2 x3 x4 x5 x6 x7 zs xs g g4 ow).tab = [some ⟨.ints .u8 zs, g, ow, 5⟩, some ⟨.ints .i64 [64, 80, 1, 8, 7, 19, 61, 6, 28, 34, 39, 14, 18, 41], 0, true, 50⟩, some ⟨.agg [.int .i64 64, .int .i64 80, .int .i64 1, .int .i64 8, .int .i64 7, .int .i64 19, .int .i64 61,
 .int .i64 6, .int .i64 28, .int .i64 34, .int .i64 39, .int .i64 14, .int .i64 18, .int .i64 41, .int .u64 x0, .int .u64 x1, .int .u64 x2, .int .u64 x3, .int .u64 x4, .int .u64 x5, .int .u64 x6, .int .u64 x7], 0, true, 73⟩, some ⟨.ints .u8 [128], 0, true, 5⟩, some ⟨.ints .u8 xs, g4, true, 5⟩] := by kernel_rfl
noncomputable def PE37 (off m : Nat) (x0 x1 x2 x3 x4 x5 x6 x7 : Int) (zs xs : List Int) (g g4 : Nat) (ow : Bool) : Out := trim 5 5 [1,2,5,6] (run eX64 89 ⟨5, []⟩ 400 (roundOf 4 f37) [(1, .slice 1 4 g4 off m none), (2, .var 1 0), (5, .var 2 0), (6, .int .i64 128)] [some ⟨.ints .u8 zs, g, ow, 5⟩, some ⟨.ints .i64 [64, 80, 1, 8, 7, 19, 61, 6, 28, 34, 39, 14, 18, 41], 0, true, 50⟩, some ⟨.agg [.int .i64 64, .int .i64 80, .int .i64 1, .int .i64 8, .int .i64 7, .int .i64 19, .int .i64 61, .int .i64 6, .int .i64 28, .int .i64 34, .int .i64 39, .int .i64 14, .int .i64 18, .int .i64 41, .int .u64 x0, .int .u64 x1, .int .u64 x2, .int .u64 x3, .int .u64 x4, .int .u64 x5, .int .u64 x6, .int .u64 x7], 0, true, 73⟩, some ⟨.ints .u8 [128], 0, true, 5⟩, some ⟨.ints .u8 xs, g4, true, 5⟩] [some true])
theorem PE37_ok {off m : Nat} {x0 x1 x2 x3 x4 x5 x6 x7 : Int} {zs xs : List Int} {g g4 : Nat} {ow : Bool} (h : allP [.eqN g4 g4, .p (decide (0 < (↑m : Int)) = true), .eqN g4 g4, .orN 128 m (off + 128) xs.length, .eqN g4 g4, .eqN g4 g4, .leN (addO off 0 + 128) xs.length, .p (BsLaw xs), .p (WdsLaw 64 [x0, x1, x2, x3, x4, x5, x6, x7]), .eqN g4 g4, .leN 128 m]) : Ok (PE37 off m x0 x1 x2 x3 x4 x5 x6 x7
 zs xs g g4 ow) := Ok.dem (fl := bitsF 15 4244) (by kernel_rfl) (by kernel_rfl) (by kernel_rfl) h
theorem PE37_ex {off m : Nat} {x0 x1 x2 x3 x4 x5 x6 x7 : Int} {zs xs : List Int} {g g4 : Nat} {ow : Bool} : (PE37 off m x0 x1 x2 x3 x4 x5 x6 x7 zs xs g g4 ow).ex = .normal := by kernel_rfl
theorem PE37_fm {off m : Nat} {x0 x1 x2 x3 x4 x5 x6 x7 : Int} {zs xs : List Int} {g g4 : Nat} {ow : Bool} : (PE37 off m x0 x1 x2 x3 x4 x5 x6 x7 zs xs g g4 ow).fm = [(1, .slice 1 4 g4 (addO off 128) (m - 128) none), (2, .var 1 0), (5, .var 2 0), (6, .int .i64 128)] := by kernel_rfl
theorem PE37_tab {off m : Nat} {x0 x1 x2 x3 x4 x5 x6 x7 : Int} {zs xs : List Int} {g g4 : Nat} {ow : Bool} : (PE37 off m x0 x1 x2 x3 x4 x5 x6 x7 zs xs g g4 ow).tab = [some ⟨.ints .u8 zs, g, ow, 5⟩, some ⟨.ints .i64 [64, 80, 1, 8, 7, 19, 61, 6, 28, 34, 39, 14, 18, 41], 0, true, 50⟩, some ⟨.agg [.int .i64 64, .int .i64 80, .int .i64 1, .int .i64 8, .int .i64 7, .int .i64 19, .int .i64 61, .int .i64
 6, .int .i64 28, .int .i64 34, .int .i64 39, .int .i64 14, .int .i64 18, .int .i64 41, .int .u64 (blkAtLaw 64 8 18446744073709551616 [1, 8, 7] [19, 61, 6] [28, 34, 39] [14, 18, 41] 80 xs (addO off 0) [x0, x1, x2, x3, x4, x5, x6, x7] 0), .int .u64 (blkAtLaw 64 8 18446744073709551616 [1, 8, 7] [19, 61, 6] [28, 34, 39] [14, 18, 41] 80 xs (addO off 0) [x0, x1, x2, x3, x4, x5, x6, x7] 1), .int .u64
 (blkAtLaw 64 8 18446744073709551616 [1, 8, 7] [19, 61, 6] [28, 34, 39] [14, 18, 41] 80 xs (addO off 0) [x0, x1, x2, x3, x4, x5, x6, x7] 2), .int .u64 (blkAtLaw 64 8 18446744073709551616 [1, 8, 7] [19, 61, 6] [28, 34, 39] [14, 18, 41] 80 xs (addO off 0) [x0, x1, x2, x3, x4, x5, x6, x7] 3), .int .u64 (blkAtLaw 64 8 18446744073709551616 [1, 8, 7] [19, 61, 6] [28, 34, 39] [14, 18, 41] 80 xs (addO off
 0) [x0, x1, x2, x3, x4, x5, x6, x7] 4), .int .u64 (blkAtLaw 64 8 18446744073709551616 [1, 8, 7] [19, 61, 6] [28, 34, 39] [14, 18, 41] 80 xs (addO off 0) [x0, x1, x2, x3, x4, x5, x6, x7] 5), .int .u64 (blkAtLaw 64 8 18446744073709551616 [1, 8, 7] [19, 61, 6] [28, 34, 39] [14, 18, 41] 80 xs (addO off 0) [x0, x1, x2, x3, x4, x5, x6, x7] 6), .int .u64 (blkAtLaw 64 8 18446744073709551616 [1, 8, 7] [19,
 61, 6] [28, 34, 39] [14, 18, 41] 80 xs (addO off 0) [x0, x1, x2, x3, x4, x5, x6, x7] 7)], 0, true, 73⟩, some ⟨.ints .u8 [128], 0, true, 5⟩, some ⟨.ints .u8 xs, g4, true, 5⟩] := by kernel_rfl
noncomputable def PF37 (off m : Nat) (x0 x1 x2 x3 x4 x5 x6 x7 : Int) (zs xs : List Int) (g g4 : Nat) (ow : Bool) : Out := trim 5 5 [2,5] (run eX64 89 ⟨5, []⟩ 400 (roundOf 4 f37) [(1, .slice 1 4 g4 off m none), (2, .var 1 0), (5, .var 2 0), (6, .int .i64 128)] [some ⟨.ints .u8 zs, g, ow, 5⟩, some ⟨.ints .i64 [64, 80, 1, 8, 7, 19, 61, 6, 28, 34, 39, 14, 18, 41], 0, true, 50⟩, some ⟨.agg [.int .i64 64, .int .i64 80, .int .i64 1, .int .i64 8, .int .i64 7, .int .i64 19, .int .i64 61, .int .i64 6, .int .i64 28, .int .i64 34, .int .i64 39, .int .i64 14, .int .i64 18, .int .i64 41, .int .u64 x0, .int .u64 x1, .int .u64 x2, .int .u64 x3, .int .u64 x4, .int .u64 x5, .int .u64 x6, .int .u64 x7], 0, true, 73⟩, some ⟨.ints .u8 [128], 0, true, 5⟩, some ⟨.ints .u8 xs, g4, true, 5⟩] [some false])
theorem PF37_ok {off m : Nat} {x0 x1 x2 x3 x4 x5 x6 x7 : Int} {zs xs : List Int} {g g4 : Nat} {ow : Bool} (h : allP [.eqN g4 g4, .p (decide (0 < (↑m : Int)) = false)]) : Ok (PF37 off m x0 x1 x2 x3 x4 x5 x6 x7 zs xs g g4 ow) := Ok.dem (fl := [false, false]) (by kernel_rfl) (by kernel_rfl) (by kernel_rfl) h
theorem PF37_ex {off m : Nat} {x0 x1 x2 x3 x4 x5 x6 x7 : Int} {zs xs : List Int} {g g4 : Nat} {ow : Bool} : (PF37 off m x0 x1 x2 x3 x4 x5 x6 x7 zs xs g g4 ow).ex = .exit 4 := by kernel_rfl
theorem PF37_fm {off m : Nat} {x0 x1 x2 x3 x4 x5 x6 x7 : Int} {zs xs : List Int} {g g4 : Nat} {ow : Bool} : (PF37 off m x0 x1 x2 x3 x4 x5 x6 x7 zs xs g g4 ow).fm = [(2, .var 1 0), (5, .var 2 0)] := by kernel_rfl
theorem PF37_tab {off m : Nat} {x0 x1 x2 x3 x4 x5 x6 x7 : Int} {zs xs : List Int} {g g4 : Nat} {ow : Bool} : (PF37 off m x0 x1 x2 x3 x4 x5 x6 x7 zs xs g g4 ow).tab = [some ⟨.ints .u8 zs, g, ow, 5⟩, some ⟨.ints .i64 [64, 80, 1, 8, 7, 19, 61, 6, 28, 34, 39, 14, 18, 41], 0, true, 50⟩, some ⟨.agg [.int .i64 64, .int .i64 80, .int .i64 1, .int .i64 8, .int .i64 7, .int .i64 19, .int .i64 61, .int .i64
 6, .int .i64 28, .int .i64 34, .int .i64 39, .int .i64 14, .int .i64 18, .int .i64 41, .int .u64 x0, .int .u64 x1, .int .u64 x2, .int .u64 x3, .int .u64 x4, .int .u64 x5, .int .u64 x6, .int .u64 x7], 0, true, 73⟩, some ⟨.ints .u8 [128], 0, true, 5⟩, some ⟨.ints .u8 xs, g4, true, 5⟩] := by kernel_rfl
end Go.Abs

set_option linter.unusedVariables false
set_option linter.unusedSimpArgs false
set_option maxRecDepth 8000
namespace Go.Abs
open Go.Proofs Go.Proofs.Tryd
/-! ### padding and blocks -/
def padLaw (B m : Nat) : Nat := (2 * B - B / 8 - m % B) % B
theorem pad64_lt {m i : Nat} (h : i < padLaw 64 m) : (m + i) % 64 ≠ 56 := by unfold padLaw at h; omega
theorem pad64_at (m : Nat) : (m + padLaw 64 m) % 64 = 56 := by unfold padLaw; omega
theorem pad64_le (m : Nat) : padLaw 64 m < 64 := by unfold padLaw; omega
theorem pad128_lt {m i : Nat} (h : i < padLaw 128 m) : (m + i) % 128 ≠ 112 := by unfold padLaw at h; omega
theorem pad128_at (m : Nat) : (m + padLaw 128 m) % 128 = 112 := by unfold padLaw; omega
theorem pad128_le (m : Nat) : padLaw 128 m < 128 := by unfold padLaw; omega
theorem tmod_nat (a b : Nat) : ((a : Int).tmod (b : Int)) = ((a % b : Nat) : Int) := rfl
def zeroLaw (n : Nat) : List Int := List.replicate n 0
theorem zero_snoc (xs : List Int) (i : Nat) : (xs ++ zeroLaw i) ++ [0] = xs ++ zeroLaw (i + 1) := by
  rw [List.append_assoc]; congr 1; unfold zeroLaw; rw [List.replicate_succ']
theorem To.start {E : Env} {n k : Nat} {c : Code} {fm fm' : Fm} {T0 T T' : Tab} {ex : AExit} (e : T0 = T) (h : To E n k c fm T0 ex fm' T') : To E n k c fm T ex fm' T' := e ▸ h
theorem zero_len (i : Nat) : (zeroLaw i).length = i := by simp [zeroLaw]
/-! width 32 -/
def FP33 (len : Int) (g4 m : Nat) : Fm := [(1, .slice 1 4 g4 0 m none), (2, .var 1 0), (5, .var 2 0), (6, .int .i64 64), (7, .int .u64 len)]
def TP33 (x0 x1 x2 x3 x4 x5 x6 x7 : Int) (zs : List Int) (g : Nat) (ow : Bool) (xs : List Int) (g4 : Nat) : Tab := [some ⟨.ints .u8 zs, g, ow, 5⟩, some ⟨.ints .i64 [32, 64, 7, 18, 3, 17, 19, 10, 2, 13, 22, 6, 11, 25], 0, true, 50⟩, some ⟨.agg [.int .i64 32, .int .i64 64, .int .i64 7, .int .i64 18, .int .i64 3, .int .i64 17, .int .i64 19, .int .i64 10, .int .i64 2, .int .i64 13, .int .i64 22, .int .i64 6, .int .i64 11, .int .i64 25, .int .u32 x0, .int .u32 x1, .int .u32 x2, .int .u32 x3, .int .u32 x4, .int .u32 x5, .int .u32 x6, .int .u32 x7], 0, true, 64⟩, some ⟨.ints .u8 [128], 0, true, 5⟩, some ⟨.ints .u8 xs, g4, true, 5⟩]
theorem loopP33 {len : Int} {x0 x1 x2 x3 x4 x5 x6 x7 : Int} {zs : List Int} {g : Nat} {ow : Bool} {xs : List Int} {g4 : Nat} (hl : xs.length + 64 ≤ 140737488355328) :
    To eX32 89 5 (.block 0 (.loop (roundOf 0 f33))) (FP33 len g4 xs.length) (TP33 x0 x1 x2 x3 x4 x5 x6 x7 zs g ow xs g4) .normal (FP33 len (g4 + padLaw 64 xs.length) (xs.length + padLaw 64 xs.length)) (TP33 x0 x1 x2 x3 x4 x5 x6 x7 zs g ow (xs ++ zeroLaw (padLaw 64 xs.length)) (g4 + padLaw 64 xs.length)) := by
  have hle := pad64_le xs.length
  have hat := pad64_at xs.length
  refine To.start (T0 := TP33 x0 x1 x2 x3 x4 x5 x6 x7 zs g ow (xs ++ zeroLaw 0) g4) (by rw [show xs ++ zeroLaw 0 = xs from List.append_nil _]) ?_
  refine To.rounds (fun i => FP33 len (g4 + i) (xs.length + i)) (fun i => TP33 x0 x1 x2 x3 x4 x5 x6 x7 zs g ow (xs ++ zeroLaw i) (g4 + i)) (padLaw 64 xs.length) (fun i hi => ?_)
    (To.of (o := PB33 len (xs.length + padLaw 64 xs.length) x0 x1 x2 x3 x4 x5 x6 x7 zs (xs ++ zeroLaw (padLaw 64 xs.length)) g (g4 + padLaw 64 xs.length) ow) eX32_ok hmS (Nat.le_refl 5) OrcOk.nil rfl (PB33_ok ?_) PB33_ex PB33_fm PB33_tab)
  · have hne := pad64_lt hi
    have hlen : (xs ++ zeroLaw i).length = xs.length + i := by rw [List.length_append, zero_len]
    refine To.of (o := PA33 len (xs.length + i) x0 x1 x2 x3 x4 x5 x6 x7 zs (xs ++ zeroLaw i) g (g4 + i) ow) eX32_ok hmS (Nat.le_refl 5) OrcOk.nil rfl (PA33_ok ?_) PA33_ex (by rw [PA33_fm, addO_eq]; rfl) ?_
    · simp only [allP, Con.h, hlen, addO_eq, Nat.zero_add, Nat.le_refl, eq_self, true_and, and_true]
      refine ⟨?_, by omega⟩
      rw [show (64 : Int) = ((64 : Nat) : Int) from rfl, tmod_nat, bne_iff_ne]
      omega
    · rw [PA33_tab, List.take_of_length_le (by omega), zero_snoc]
      rfl
  · simp only [allP, Con.h, eq_self, true_and, and_true]
    rw [show (64 : Int) = ((64 : Nat) : Int) from rfl, tmod_nat, hat]
    rfl
noncomputable def gP33 : List AVal → Tab → Out := fun vs T => match vs, T with
  | [.slice 1 4 g4' 0 m none, .var 1 0, .var 2 0, .int .i64 b, .int .u64 len], [some ⟨.ints .u8 zs, g, ow, 5⟩, some ⟨.ints .i64 [32, 64, 7, 18, 3, 17, 19, 10, 2, 13, 22, 6, 11, 25], 0, true, 50⟩, some ⟨.agg [.int .i64 32, .int .i64 64, .int .i64 7, .int .i64 18, .int .i64 3, .int .i64 17, .int .i64 19, .int .i64 10, .int .i64 2, .int .i64 13, .int .i64 22, .int .i64 6, .int .i64 11, .int .i64 25, .int .u32 x0, .int .u32 x1, .int .u32 x2, .int .u32 x3, .int .u32 x4, .int .u32 x5, .int .u32 x6, .int .u32 x7], 0, true, 64⟩, some ⟨.ints .u8 [128], 0, true, 5⟩, some ⟨.ints .u8 xs, g4, true, 5⟩] =>
    ⟨[.eqN g4' g4, .eqN m xs.length, .rng 64 b 64, .leN (xs.length + 64) 140737488355328], .normal, [(1, .slice 1 4 (g4 + padLaw 64 m) 0 (m + padLaw 64 m) none), (2, .var 1 0), (5, .var 2 0), (6, .int .i64 64), (7, .int .u64 len)],
      [some ⟨.ints .u8 zs, g, ow, 5⟩, some ⟨.ints .i64 [32, 64, 7, 18, 3, 17, 19, 10, 2, 13, 22, 6, 11, 25], 0, true, 50⟩, some ⟨.agg [.int .i64 32, .int .i64 64, .int .i64 7, .int .i64 18, .int .i64 3, .int .i64 17, .int .i64 19, .int .i64 10, .int .i64 2, .int .i64 13, .int .i64 22, .int .i64 6, .int .i64 11, .int .i64 25, .int .u32 x0, .int .u32 x1, .int .u32 x2, .int .u32 x3, .int .u32 x4, .int .u32 x5, .int .u32 x6, .int .u32 x7], 0, true, 64⟩, some ⟨.ints .u8 [128], 0, true, 5⟩, some ⟨.ints .u8 (xs ++ zeroLaw (padLaw 64 m)), g4 + padLaw 64 m, true, 5⟩], []⟩
  | _, _ => failO
theorem gP33_ok : BlkOk eX32 f33 0 (.loop (roundOf 0 f33)) (blkS 5 [1,2,5,6,7] gP33) := by
  refine blkS_ok fun vs T h => ?_
  unfold gP33 at h ⊢
  split at h
  · rename_i g4' m b len zs g ow x0 x1 x2 x3 x4 x5 x6 x7 xs g4
    obtain ⟨h1, h2, h3, h4, _⟩ := h.h
    simp only [Con.h] at h1 h2 h3 h4
    obtain rfl : b = 64 := by omega
    subst h1 h2
    exact loopP33 h4
  · exact absurd h nofailO
def stsLaw32 (xs s : List Int) : Nat → List Int
  | 0 => s
  | i + 1 => [bkLaw32 xs (64 * i) (stsLaw32 xs s i) 0, bkLaw32 xs (64 * i) (stsLaw32 xs s i) 1, bkLaw32 xs (64 * i) (stsLaw32 xs s i) 2, bkLaw32 xs (64 * i) (stsLaw32 xs s i) 3, bkLaw32 xs (64 * i) (stsLaw32 xs s i) 4, bkLaw32 xs (64 * i) (stsLaw32 xs s i) 5, bkLaw32 xs (64 * i) (stsLaw32 xs s i) 6, bkLaw32 xs (64 * i) (stsLaw32 xs s i) 7]
theorem stsLaw32_len {xs s : List Int} (h : s.length = 8) : ∀ i, (stsLaw32 xs s i).length = 8
  | 0 => h
  | i + 1 => rfl
theorem stsLaw32_wds {xs s : List Int} (h : Wds 32 s) : ∀ i, Wds 32 (stsLaw32 xs s i)
  | 0 => h
  | i + 1 => .cons (bkLaw32_wd _ _ _ _) (.cons (bkLaw32_wd _ _ _ _) (.cons (bkLaw32_wd _ _ _ _) (.cons (bkLaw32_wd _ _ _ _) (.cons (bkLaw32_wd _ _ _ _) (.cons (bkLaw32_wd _ _ _ _) (.cons (bkLaw32_wd _ _ _ _) (.cons (bkLaw32_wd _ _ _ _) (.nil 32))))))))
def stAt32Law (xs s : List Int) (i j : Nat) : Int := (stsLaw32 xs s i).getD j 0
def FE33 (g4 off m : Nat) : Fm := [(1, .slice 1 4 g4 off m none), (2, .var 1 0), (5, .var 2 0), (6, .int .i64 64)]
def TE33 (zs : List Int) (g : Nat) (ow : Bool) (xs : List Int) (g4 : Nat) (s : List Int) : Tab := [some ⟨.ints .u8 zs, g, ow, 5⟩, some ⟨.ints .i64 [32, 64, 7, 18, 3, 17, 19, 10, 2, 13, 22, 6, 11, 25], 0, true, 50⟩, some ⟨.agg [.int .i64 32, .int .i64 64, .int .i64 7, .int .i64 18, .int .i64 3, .int .i64 17, .int .i64 19, .int .i64 10, .int .i64 2, .int .i64 13, .int .i64 22, .int .i64 6, .int .i64 11, .int .i64 25, .int .u32 (s.getD 0 0), .int .u32 (s.getD 1 0), .int .u32 (s.getD 2 0), .int .u32 (s.getD 3 0), .int .u32 (s.getD 4 0), .int .u32 (s.getD 5 0), .int .u32 (s.getD 6 0), .int .u32 (s.getD 7 0)], 0, true, 64⟩, some ⟨.ints .u8 [128], 0, true, 5⟩, some ⟨.ints .u8 xs, g4, true, 5⟩]
theorem loopE33 {zs : List Int} {g : Nat} {ow : Bool} {xs s : List Int} {g4 q : Nat} (hl : xs.length = 64 * q) (hb : BsLaw xs) (hs : s.length = 8) (hw : Wds 32 s) :
    To eX32 89 5 (.block 4 (.loop (roundOf 4 f33))) (FE33 g4 0 xs.length) (TE33 zs g ow xs g4 s) .normal [(2, .var 1 0), (5, .var 2 0)] (TE33 zs g ow xs g4 (stsLaw32 xs s q)) := by
  refine To.rounds (fun i => FE33 g4 (64 * i) (xs.length - 64 * i)) (fun i => TE33 zs g ow xs g4 (stsLaw32 xs s i)) q (fun i hi => ?_) ?_
  · have e1 := stsLaw32_len (xs := xs) hs i
    have e2 := stsLaw32_wds (xs := xs) hw i
    show To _ _ _ _ _ _ _ _ (TE33 zs g ow xs g4 [bkLaw32 xs (64 * i) (stsLaw32 xs s i) 0, bkLaw32 xs (64 * i) (stsLaw32 xs s i) 1, bkLaw32 xs (64 * i) (stsLaw32 xs s i) 2, bkLaw32 xs (64 * i) (stsLaw32 xs s i) 3, bkLaw32 xs (64 * i) (stsLaw32 xs s i) 4, bkLaw32 xs (64 * i) (stsLaw32 xs s i) 5, bkLaw32 xs (64 * i) (stsLaw32 xs s i) 6, bkLaw32 xs (64 * i) (stsLaw32 xs s i) 7])
    generalize stsLaw32 xs s i = r at e1 e2 ⊢
    obtain ⟨x0, x1, x2, x3, x4, x5, x6, x7, rfl⟩ := list8 e1
    have e3 : WdsLaw 32 [x0, x1, x2, x3, x4, x5, x6, x7] := e2
    refine To.of (o := PE33 (64 * i) (xs.length - 64 * i) x0 x1 x2 x3 x4 x5 x6 x7 zs xs g g4 ow) eX32_ok hmS (Nat.le_refl 5) OrcOk.nil rfl (PE33_ok ?_) PE33_ex ?_ ?_
    · simp only [allP, Con.h, addO_eq, hb, e3, decide_eq_true_eq, eq_self, true_and, and_true]
      omega
    · rw [PE33_fm, addO_eq]
      show _ = FE33 g4 (64 * (i + 1)) (xs.length - 64 * (i + 1))
      rw [show 64 * (i + 1) = 64 * i + 64 by omega, Nat.sub_add_eq]
      rfl
    · rw [PE33_tab, addO_eq]
      rfl
  · have e1 := stsLaw32_len (xs := xs) hs q
    show To _ _ _ _ _ (TE33 zs g ow xs g4 (stsLaw32 xs s q)) _ _ _
    generalize stsLaw32 xs s q = r at e1 ⊢
    obtain ⟨x0, x1, x2, x3, x4, x5, x6, x7, rfl⟩ := list8 e1
    exact To.of (o := PF33 (64 * q) (xs.length - 64 * q) x0 x1 x2 x3 x4 x5 x6 x7 zs xs g g4 ow) eX32_ok hmS (Nat.le_refl 5) OrcOk.nil rfl (PF33_ok (by simp only [allP, Con.h, decide_eq_false_iff_not, eq_self, true_and, and_true]; omega)) PF33_ex PF33_fm PF33_tab
noncomputable def gE33 : List AVal → Tab → Out := fun vs T => match vs, T with
  | [.slice 1 4 g4' 0 m none, .var 1 0, .var 2 0, .int .i64 b], [some ⟨.ints .u8 zs, g, ow, 5⟩, some ⟨.ints .i64 [32, 64, 7, 18, 3, 17, 19, 10, 2, 13, 22, 6, 11, 25], 0, true, 50⟩, some ⟨.agg [.int .i64 32, .int .i64 64, .int .i64 7, .int .i64 18, .int .i64 3, .int .i64 17, .int .i64 19, .int .i64 10, .int .i64 2, .int .i64 13, .int .i64 22, .int .i64 6, .int .i64 11, .int .i64 25, .int .u32 x0, .int .u32 x1, .int .u32 x2, .int .u32 x3, .int .u32 x4, .int .u32 x5, .int .u32 x6, .int .u32 x7], 0, true, 64⟩, some ⟨.ints .u8 [128], 0, true, 5⟩, some ⟨.ints .u8 xs, g4, true, 5⟩] =>
    ⟨[.eqN g4' g4, .eqN m xs.length, .rng 64 b 64, .p (xs.length % 64 = 0), .p (BsLaw xs), .p (WdsLaw 32 [x0, x1, x2, x3, x4, x5, x6, x7])], .normal, [(2, .var 1 0), (5, .var 2 0)],
      [some ⟨.ints .u8 zs, g, ow, 5⟩, some ⟨.ints .i64 [32, 64, 7, 18, 3, 17, 19, 10, 2, 13, 22, 6, 11, 25], 0, true, 50⟩, some ⟨.agg [.int .i64 32, .int .i64 64, .int .i64 7, .int .i64 18, .int .i64 3, .int .i64 17, .int .i64 19, .int .i64 10, .int .i64 2, .int .i64 13, .int .i64 22, .int .i64 6, .int .i64 11, .int .i64 25, .int .u32 (stAt32Law xs [x0, x1, x2, x3, x4, x5, x6, x7] (xs.length / 64) 0), .int .u32 (stAt32Law xs [x0, x1, x2, x3, x4, x5, x6, x7] (xs.length / 64) 1), .int .u32 (stAt32Law xs [x0, x1, x2, x3, x4, x5, x6, x7] (xs.length / 64) 2), .int .u32 (stAt32Law xs [x0, x1, x2, x3, x4, x5, x6, x7] (xs.length / 64) 3), .int .u32 (stAt32Law xs [x0, x1, x2, x3, x4, x5, x6, x7] (xs.length / 64) 4), .int .u32 (stAt32Law xs [x0, x1, x2, x3, x4, x5, x6, x7] (xs.length / 64) 5), .int .u32 (stAt32Law xs [x0, x1, x2, x3, x4, x5, x6, x7] (xs.length / 64) 6), .int .u32 (stAt32Law xs [x0, x1, x2, x3, x4, x5, x6, x7] (xs.length / 64) 7)], 0, true, 64⟩, some ⟨.ints .u8 [128], 0, true, 5⟩, some ⟨.ints .u8 xs, g4, true, 5⟩], []⟩
  | _, _ => failO
theorem gE33_ok : BlkOk eX32 f33 4 (.loop (roundOf 4 f33)) (blkS 5 [1,2,5,6] gE33) := by
  refine blkS_ok fun vs T h => ?_
  unfold gE33 at h ⊢
  split at h
  · rename_i g4' m b zs g ow x0 x1 x2 x3 x4 x5 x6 x7 xs g4
    obtain ⟨h1, h2, h3, h4, h5, h6, _⟩ := h.h
    simp only [Con.h] at h1 h2 h3 h4 h5 h6
    obtain rfl : b = 64 := by omega
    subst h1 h2
    exact loopE33 (q := xs.length / 64) (by omega) h5 rfl h6
  · exact absurd h nofailO
/-! width 64 -/
def FP37 (len : Int) (g4 m : Nat) : Fm := [(1, .slice 1 4 g4 0 m none), (2, .var 1 0), (5, .var 2 0), (6, .int .i64 128), (7, .int .u64 len)]
def TP37 (x0 x1 x2 x3 x4 x5 x6 x7 : Int) (zs : List Int) (g : Nat) (ow : Bool) (xs : List Int) (g4 : Nat) : Tab := [some ⟨.ints .u8 zs, g, ow, 5⟩, some ⟨.ints .i64 [64, 80, 1, 8, 7, 19, 61, 6, 28, 34, 39, 14, 18, 41], 0, true, 50⟩, some ⟨.agg [.int .i64 64, .int .i64 80, .int .i64 1, .int .i64 8, .int .i64 7, .int .i64 19, .int .i64 61, .int .i64 6, .int .i64 28, .int .i64 34, .int .i64 39, .int .i64 14, .int .i64 18, .int .i64 41, .int .u64 x0, .int .u64 x1, .int .u64 x2, .int .u64 x3, .int .u64 x4, .int .u64 x5, .int .u64 x6, .int .u64 x7], 0, true, 73⟩, some ⟨.ints .u8 [128], 0, true, 5⟩, some ⟨.ints .u8 xs, g4, true, 5⟩]
theorem loopP37 {len : Int} {x0 x1 x2 x3 x4 x5 x6 x7 : Int} {zs : List Int} {g : Nat} {ow : Bool} {xs : List Int} {g4 : Nat} (hl : xs.length + 128 ≤ 140737488355328) :
    To eX64 89 5 (.block 0 (.loop (roundOf 0 f37))) (FP37 len g4 xs.length) (TP37 x0 x1 x2 x3 x4 x5 x6 x7 zs g ow xs g4) .normal (FP37 len (g4 + padLaw 128 xs.length) (xs.length + padLaw 128 xs.length)) (TP37 x0 x1 x2 x3 x4 x5 x6 x7 zs g ow (xs ++ zeroLaw (padLaw 128 xs.length)) (g4 + padLaw 128 xs.length)) := by
  have hle := pad128_le xs.length
  have hat := pad128_at xs.length
  refine To.start (T0 := TP37 x0 x1 x2 x3 x4 x5 x6 x7 zs g ow (xs ++ zeroLaw 0) g4) (by rw [show xs ++ zeroLaw 0 = xs from List.append_nil _]) ?_
  refine To.rounds (fun i => FP37 len (g4 + i) (xs.length + i)) (fun i => TP37 x0 x1 x2 x3 x4 x5 x6 x7 zs g ow (xs ++ zeroLaw i) (g4 + i)) (padLaw 128 xs.length) (fun i hi => ?_)
    (To.of (o := PB37 len (xs.length + padLaw 128 xs.length) x0 x1 x2 x3 x4 x5 x6 x7 zs (xs ++ zeroLaw (padLaw 128 xs.length)) g (g4 + padLaw 128 xs.length) ow) eX64_ok hmS (Nat.le_refl 5) OrcOk.nil rfl (PB37_ok ?_) PB37_ex PB37_fm PB37_tab)
  · have hne := pad128_lt hi
    have hlen : (xs ++ zeroLaw i).length = xs.length + i := by rw [List.length_append, zero_len]
    refine To.of (o := PA37 len (xs.length + i) x0 x1 x2 x3 x4 x5 x6 x7 zs (xs ++ zeroLaw i) g (g4 + i) ow) eX64_ok hmS (Nat.le_refl 5) OrcOk.nil rfl (PA37_ok ?_) PA37_ex (by rw [PA37_fm, addO_eq]; rfl) ?_
    · simp only [allP, Con.h, hlen, addO_eq, Nat.zero_add, Nat.le_refl, eq_self, true_and, and_true]
      refine ⟨?_, by omega⟩
      rw [show (128 : Int) = ((128 : Nat) : Int) from rfl, tmod_nat, bne_iff_ne]
      omega
    · rw [PA37_tab, List.take_of_length_le (by omega), zero_snoc]
      rfl
  · simp only [allP, Con.h, eq_self, true_and, and_true]
    rw [show (128 : Int) = ((128 : Nat) : Int) from rfl, tmod_nat, hat]
    rfl
noncomputable def gP37 : List AVal → Tab → Out := fun vs T => match vs, T with
  | [.slice 1 4 g4' 0 m none, .var 1 0, .var 2 0, .int .i64 b, .int .u64 len], [some ⟨.ints .u8 zs, g, ow, 5⟩, some ⟨.ints .i64 [64, 80, 1, 8, 7, 19, 61, 6, 28, 34, 39, 14, 18, 41], 0, true, 50⟩, some ⟨.agg [.int .i64 64, .int .i64 80, .int .i64 1, .int .i64 8, .int .i64 7, .int .i64 19, .int .i64 61, .int .i64 6, .int .i64 28, .int .i64 34, .int .i64 39, .int .i64 14, .int .i64 18, .int .i64 41, .int .u64 x0, .int .u64 x1, .int .u64 x2, .int .u64 x3, .int .u64 x4, .int .u64 x5, .int .u64 x6, .int .u64 x7], 0, true, 73⟩, some ⟨.ints .u8 [128], 0, true, 5⟩, some ⟨.ints .u8 xs, g4, true, 5⟩] =>
    ⟨[.eqN g4' g4, .eqN m xs.length, .rng 128 b 128, .leN (xs.length + 128) 140737488355328], .normal, [(1, .slice 1 4 (g4 + padLaw 128 m) 0 (m + padLaw 128 m) none), (2, .var 1 0), (5, .var 2 0), (6, .int .i64 128), (7, .int .u64 len)],
      [some ⟨.ints .u8 zs, g, ow, 5⟩, some ⟨.ints .i64 [64, 80, 1, 8, 7, 19, 61, 6, 28, 34, 39, 14, 18, 41], 0, true, 50⟩, some ⟨.agg [.int .i64 64, .int .i64 80, .int .i64 1, .int .i64 8, .int .i64 7, .int .i64 19, .int .i64 61, .int .i64 6, .int .i64 28, .int .i64 34, .int .i64 39, .int .i64 14, .int .i64 18, .int .i64 41, .int .u64 x0, .int .u64 x1, .int .u64 x2, .int .u64 x3, .int .u64 x4, .int .u64 x5, .int .u64 x6, .int .u64 x7], 0, true, 73⟩, some ⟨.ints .u8 [128], 0, true, 5⟩, some ⟨.ints .u8 (xs ++ zeroLaw (padLaw 128 m)), g4 + padLaw 128 m, true, 5⟩], []⟩
  | _, _ => failO
theorem gP37_ok : BlkOk eX64 f37 0 (.loop (roundOf 0 f37)) (blkS 5 [1,2,5,6,7] gP37) := by
  refine blkS_ok fun vs T h => ?_
  unfold gP37 at h ⊢
  split at h
  · rename_i g4' m b len zs g ow x0 x1 x2 x3 x4 x5 x6 x7 xs g4
    obtain ⟨h1, h2, h3, h4, _⟩ := h.h
    simp only [Con.h] at h1 h2 h3 h4
    obtain rfl : b = 128 := by omega
    subst h1 h2
    exact loopP37 h4
  · exact absurd h nofailO
def stsLaw64 (xs s : List Int) : Nat → List Int
  | 0 => s
  | i + 1 => [bkLaw64 xs (128 * i) (stsLaw64 xs s i) 0, bkLaw64 xs (128 * i) (stsLaw64 xs s i) 1, bkLaw64 xs (128 * i) (stsLaw64 xs s i) 2, bkLaw64 xs (128 * i) (stsLaw64 xs s i) 3, bkLaw64 xs (128 * i) (stsLaw64 xs s i) 4, bkLaw64 xs (128 * i) (stsLaw64 xs s i) 5, bkLaw64 xs (128 * i) (stsLaw64 xs s i) 6, bkLaw64 xs (128 * i) (stsLaw64 xs s i) 7]
theorem stsLaw64_len {xs s : List Int} (h : s.length = 8) : ∀ i, (stsLaw64 xs s i).length = 8
  | 0 => h
  | i + 1 => rfl
theorem stsLaw64_wds {xs s : List Int} (h : Wds 64 s) : ∀ i, Wds 64 (stsLaw64 xs s i)
  | 0 => h
  | i + 1 => .cons (bkLaw64_wd _ _ _ _) (.cons (bkLaw64_wd _ _ _ _) (.cons (bkLaw64_wd _ _ _ _) (.cons (bkLaw64_wd _ _ _ _) (.cons (bkLaw64_wd _ _ _ _) (.cons (bkLaw64_wd _ _ _ _) (.cons (bkLaw64_wd _ _ _ _) (.cons (bkLaw64_wd _ _ _ _) (.nil 64))))))))
def stAt64Law (xs s : List Int) (i j : Nat) : Int := (stsLaw64 xs s i).getD j 0
def FE37 (g4 off m : Nat) : Fm := [(1, .slice 1 4 g4 off m none), (2, .var 1 0), (5, .var 2 0), (6, .int .i64 128)]
def TE37 (zs : List Int) (g : Nat) (ow : Bool) (xs : List Int) (g4 : Nat) (s : List Int) : Tab := [some ⟨.ints .u8 zs, g, ow, 5⟩, some ⟨.ints .i64 [64, 80, 1, 8, 7, 19, 61, 6, 28, 34, 39, 14, 18, 41], 0, true, 50⟩, some ⟨.agg [.int .i64 64, .int .i64 80, .int .i64 1, .int .i64 8, .int .i64 7, .int .i64 19, .int .i64 61, .int .i64 6, .int .i64 28, .int .i64 34, .int .i64 39, .int .i64 14, .int .i64 18, .int .i64 41, .int .u64 (s.getD 0 0), .int .u64 (s.getD 1 0), .int .u64 (s.getD 2 0), .int .u64 (s.getD 3 0), .int .u64 (s.getD 4 0), .int .u64 (s.getD 5 0), .int .u64 (s.getD 6 0), .int .u64 (s.getD 7 0)], 0, true, 73⟩, some ⟨.ints .u8 [128], 0, true, 5⟩, some ⟨.ints .u8 xs, g4, true, 5⟩]
theorem loopE37 {zs : List Int} {g : Nat} {ow : Bool} {xs s : List Int} {g4 q : Nat} (hl : xs.length = 128 * q) (hb : BsLaw xs) (hs : s.length = 8) (hw : Wds 64 s) :
    To eX64 89 5 (.block 4 (.loop (roundOf 4 f37))) (FE37 g4 0 xs.length) (TE37 zs g ow xs g4 s) .normal [(2, .var 1 0), (5, .var 2 0)] (TE37 zs g ow xs g4 (stsLaw64 xs s q)) := by
  refine To.rounds (fun i => FE37 g4 (128 * i) (xs.length - 128 * i)) (fun i => TE37 zs g ow xs g4 (stsLaw64 xs s i)) q (fun i hi => ?_) ?_
  · have e1 := stsLaw64_len (xs := xs) hs i
    have e2 := stsLaw64_wds (xs := xs) hw i
    show To _ _ _ _ _ _ _ _ (TE37 zs g ow xs g4 [bkLaw64 xs (128 * i) (stsLaw64 xs s i) 0, bkLaw64 xs (128 * i) (stsLaw64 xs s i) 1, bkLaw64 xs (128 * i) (stsLaw64 xs s i) 2, bkLaw64 xs (128 * i) (stsLaw64 xs s i) 3, bkLaw64 xs (128 * i) (stsLaw64 xs s i) 4, bkLaw64 xs (128 * i) (stsLaw64 xs s i) 5, bkLaw64 xs (128 * i) (stsLaw64 xs s i) 6, bkLaw64 xs (128 * i) (stsLaw64 xs s i) 7])
    generalize stsLaw64 xs s i = r at e1 e2 ⊢
    obtain ⟨x0, x1, x2, x3, x4, x5, x6, x7, rfl⟩ := list8 e1
    have e3 : WdsLaw 64 [x0, x1, x2, x3, x4, x5, x6, x7] := e2
    refine To.of (o := PE37 (128 * i) (xs.length - 128 * i) x0 x1 x2 x3 x4 x5 x6 x7 zs xs g g4 ow) eX64_ok hmS (Nat.le_refl 5) OrcOk.nil rfl (PE37_ok ?_) PE37_ex ?_ ?_
    · simp only [allP, Con.h, addO_eq, hb, e3, decide_eq_true_eq, eq_self, true_and, and_true]
      omega
    · rw [PE37_fm, addO_eq]
      show _ = FE37 g4 (128 * (i + 1)) (xs.length - 128 * (i + 1))
      rw [show 128 * (i + 1) = 128 * i + 128 by omega, Nat.sub_add_eq]
      rfl
    · rw [PE37_tab, addO_eq]
      rfl
  · have e1 := stsLaw64_len (xs := xs) hs q
    show To _ _ _ _ _ (TE37 zs g ow xs g4 (stsLaw64 xs s q)) _ _ _
    generalize stsLaw64 xs s q = r at e1 ⊢
    obtain ⟨x0, x1, x2, x3, x4, x5, x6, x7, rfl⟩ := list8 e1
    exact To.of (o := PF37 (128 * q) (xs.length - 128 * q) x0 x1 x2 x3 x4 x5 x6 x7 zs xs g g4 ow) eX64_ok hmS (Nat.le_refl 5) OrcOk.nil rfl (PF37_ok (by simp only [allP, Con.h, decide_eq_false_iff_not, eq_self, true_and, and_true]; omega)) PF37_ex PF37_fm PF37_tab
noncomputable def gE37 : List AVal → Tab → Out := fun vs T => match vs, T with
  | [.slice 1 4 g4' 0 m none, .var 1 0, .var 2 0, .int .i64 b], [some ⟨.ints .u8 zs, g, ow, 5⟩, some ⟨.ints .i64 [64, 80, 1, 8, 7, 19, 61, 6, 28, 34, 39, 14, 18, 41], 0, true, 50⟩, some ⟨.agg [.int .i64 64, .int .i64 80, .int .i64 1, .int .i64 8, .int .i64 7, .int .i64 19, .int .i64 61, .int .i64 6, .int .i64 28, .int .i64 34, .int .i64 39, .int .i64 14, .int .i64 18, .int .i64 41, .int .u64 x0, .int .u64 x1, .int .u64 x2, .int .u64 x3, .int .u64 x4, .int .u64 x5, .int .u64 x6, .int .u64 x7], 0, true, 73⟩, some ⟨.ints .u8 [128], 0, true, 5⟩, some ⟨.ints .u8 xs, g4, true, 5⟩] =>
    ⟨[.eqN g4' g4, .eqN m xs.length, .rng 128 b 128, .p (xs.length % 128 = 0), .p (BsLaw xs), .p (WdsLaw 64 [x0, x1, x2, x3, x4, x5, x6, x7])], .normal, [(2, .var 1 0), (5, .var 2 0)],
      [some ⟨.ints .u8 zs, g, ow, 5⟩, some ⟨.ints .i64 [64, 80, 1, 8, 7, 19, 61, 6, 28, 34, 39, 14, 18, 41], 0, true, 50⟩, some ⟨.agg [.int .i64 64, .int .i64 80, .int .i64 1, .int .i64 8, .int .i64 7, .int .i64 19, .int .i64 61, .int .i64 6, .int .i64 28, .int .i64 34, .int .i64 39, .int .i64 14, .int .i64 18, .int .i64 41, .int .u64 (stAt64Law xs [x0, x1, x2, x3, x4, x5, x6, x7] (xs.length / 128) 0), .int .u64 (stAt64Law xs [x0, x1, x2, x3, x4, x5, x6, x7] (xs.length / 128) 1), .int .u64 (stAt64Law xs [x0, x1, x2, x3, x4, x5, x6, x7] (xs.length / 128) 2), .int .u64 (stAt64Law xs [x0, x1, x2, x3, x4, x5, x6, x7] (xs.length / 128) 3), .int .u64 (stAt64Law xs [x0, x1, x2, x3, x4, x5, x6, x7] (xs.length / 128) 4), .int .u64 (stAt64Law xs [x0, x1, x2, x3, x4, x5, x6, x7] (xs.length / 128) 5), .int .u64 (stAt64Law xs [x0, x1, x2, x3, x4, x5, x6, x7] (xs.length / 128) 6), .int .u64 (stAt64Law xs [x0, x1, x2, x3, x4, x5, x6, x7] (xs.length / 128) 7)], 0, true, 73⟩, some ⟨.ints .u8 [128], 0, true, 5⟩, some ⟨.ints .u8 xs, g4, true, 5⟩], []⟩
  | _, _ => failO
theorem gE37_ok : BlkOk eX64 f37 4 (.loop (roundOf 4 f37)) (blkS 5 [1,2,5,6] gE37) := by
  refine blkS_ok fun vs T h => ?_
  unfold gE37 at h ⊢
  split at h
  · rename_i g4' m b zs g ow x0 x1 x2 x3 x4 x5 x6 x7 xs g4
    obtain ⟨h1, h2, h3, h4, h5, h6, _⟩ := h.h
    simp only [Con.h] at h1 h2 h3 h4 h5 h6
    obtain rfl : b = 128 := by omega
    subst h1 h2
    exact loopE37 (q := xs.length / 128) (by omega) h5 rfl h6
  · exact absurd h nofailO
end Go.Abs
