/- What functions of the given program come to, by the abstract machine: one text of a proof. -/
import Derived.Test.YtkbfjfookfmobaaDoorDD1
set_option linter.unusedVariables false
set_option linter.unusedSimpArgs false
set_option maxRecDepth 8000
set_option maxHeartbeats 4000000
namespace Go.Abs
open Go.Proofs Go.Proofs.Tryd
/-! ### the document's padding -/
/-! width 32 -/
def FA48_32 (g4 off n : Nat) (cp : Option Nat) (g6 m : Nat) : Fm := [(1, .slice 1 4 g4 off n cp), (2, .var 5 0), (5, .slice 1 6 g6 0 m none)]
def TA48_32 (zs : List Int) (g4 : Nat) (o4 : Bool) (xs : List Int) (g6 : Nat) : Tab := [some ⟨.ints .i64 [7, 18, 3], 0, false, 3⟩, some ⟨.ints .i64 [17, 19, 10], 0, false, 3⟩, some ⟨.ints .i64 [2, 13, 22], 0, false, 3⟩, some ⟨.ints .i64 [6, 11, 25], 0, false, 3⟩, some ⟨.ints .u8 zs, g4, o4, 5⟩, some ⟨.agg [.int .i64 32, .int .i64 64, .int .i64 64, .slice 1 0 0 0 3 (some 3), .slice 1 1 0 0 3 (some 3), .slice 1 2 0 0 3 (some 3), .slice 1 3 0 0 3 (some 3)], 0, true, 54⟩, some ⟨.ints .u8 xs, g6, true, 5⟩]
theorem loopA48_32 {zs xs : List Int} {g4 g6 off n : Nat} {cp : Option Nat} {o4 : Bool} (hl : xs.length + 64 ≤ 140737488355328) :
    To (eS0 []) 53 7 (.block 0 (.loop (roundOf 0 f48))) (FA48_32 g4 off n cp g6 xs.length) (TA48_32 zs g4 o4 xs g6) .normal (FA48_32 g4 off n cp (g6 + padLaw 64 xs.length) (xs.length + padLaw 64 xs.length)) (TA48_32 zs g4 o4 (xs ++ zeroLaw (padLaw 64 xs.length)) (g6 + padLaw 64 xs.length)) := by
  have hle := pad64_le xs.length
  have hat := pad64_at xs.length
  refine To.start (T0 := TA48_32 zs g4 o4 (xs ++ zeroLaw 0) g6) (by rw [show xs ++ zeroLaw 0 = xs from List.append_nil _]) ?_
  refine To.rounds (fun i => FA48_32 g4 off n cp (g6 + i) (xs.length + i)) (fun i => TA48_32 zs g4 o4 (xs ++ zeroLaw i) (g6 + i)) (padLaw 64 xs.length) (fun i hi => ?_)
    (To.of (o := B48_32 off n (xs.length + padLaw 64 xs.length) cp zs (xs ++ zeroLaw (padLaw 64 xs.length)) g4 (g6 + padLaw 64 xs.length) o4) eS0_ok hmS (Nat.le_refl 7) OrcOk.nil rfl (B48_32_ok ?_) B48_32_ex B48_32_fm B48_32_tab)
  · have hne := pad64_lt hi
    have hlen : (xs ++ zeroLaw i).length = xs.length + i := by rw [List.length_append, zero_len]
    refine To.of (o := A48_32 off n (xs.length + i) cp zs (xs ++ zeroLaw i) g4 (g6 + i) o4) eS0_ok hmS (Nat.le_refl 7) OrcOk.nil rfl (A48_32_ok ?_) A48_32_ex (by rw [A48_32_fm, addO_eq]; rfl) ?_
    · simp only [allP, Con.h, hlen, addO_eq, Nat.zero_add, Nat.le_refl, eq_self, true_and, and_true]
      refine ⟨by omega, ?_, by omega⟩
      rw [show (((xs.length + i : Nat) : Int) + 8) = ((xs.length + i + 8 : Nat) : Int) by omega, show (64 : Int) = ((64 : Nat) : Int) from rfl, tmod_nat, bne_iff_ne]
      omega
    · rw [A48_32_tab, List.take_of_length_le (by omega), zero_snoc]
      rfl
  · simp only [allP, Con.h, eq_self, true_and, and_true]
    refine ⟨by omega, ?_⟩
    rw [show (((xs.length + padLaw 64 xs.length : Nat) : Int) + 8) = ((xs.length + padLaw 64 xs.length + 8 : Nat) : Int) by omega, show (64 : Int) = ((64 : Nat) : Int) from rfl, tmod_nat, show (xs.length + padLaw 64 xs.length + 8) % 64 = 0 by omega]
    rfl
noncomputable def gA48_32c (vs : List AVal) (T : Tab) (zs : List Int) (xs : List Int) (g4 : Nat) (g6 : Nat) (o4 : Bool) (off : Nat) (n : Nat) (cp : Option Nat) (m : Nat) : Out := ⟨[.tab T [some ⟨.ints .i64 [7, 18, 3], 0, false, 3⟩, some ⟨.ints .i64 [17, 19, 10], 0, false, 3⟩, some ⟨.ints .i64 [2, 13, 22], 0, false, 3⟩, some ⟨.ints .i64 [6, 11, 25], 0, false, 3⟩, some ⟨.ints .u8 zs, g4, o4, 5⟩, some ⟨.agg [.int .i64 32, .int .i64 64, .int .i64 64, .slice 1 0 0 0 3 (some 3), .slice 1 1 0 0 3 (some 3), .slice 1 2 0 0 3 (some 3), .slice 1 3 0 0 3 (some 3)], 0, true, 54⟩, some ⟨.ints .u8 xs, g6, true, 5⟩], .val (.tuple vs) (.tuple [.slice 1 4 g4 off n cp, .var 5 0, .slice 1 6 g6 0 m none]), .eqN m xs.length, .leN (xs.length + 64) 140737488355328], .normal, [(1, .slice 1 4 g4 off n cp), (2, .var 5 0), (5, .slice 1 6 (g6 + padLaw 64 m) 0 (m + padLaw 64 m) none)], [some ⟨.ints .i64 [7, 18, 3], 0, false, 3⟩, some ⟨.ints .i64 [17, 19, 10], 0, false, 3⟩, some ⟨.ints .i64 [2, 13, 22], 0, false, 3⟩, some ⟨.ints .i64 [6, 11, 25], 0, false, 3⟩, some ⟨.ints .u8 zs, g4, o4, 5⟩, some ⟨.agg [.int .i64 32, .int .i64 64, .int .i64 64, .slice 1 0 0 0 3 (some 3), .slice 1 1 0 0 3 (some 3), .slice 1 2 0 0 3 (some 3), .slice 1 3 0 0 3 (some 3)], 0, true, 54⟩, some ⟨.ints .u8 (xs ++ zeroLaw (padLaw 64 m)), g6 + padLaw 64 m, true, 5⟩], []⟩
theorem gA48_32c_ok {vs : List AVal} {T : Tab} {zs : List Int} {xs : List Int} {g4 : Nat} {g6 : Nat} {o4 : Bool} {off : Nat} {n : Nat} {cp : Option Nat} {m : Nat} (h : Ok (gA48_32c vs T zs xs g4 g6 o4 off n cp m)) : To (eS0 []) 53 7 (.block 0 (.loop (roundOf 0 f48))) (zipF [1,2,5] vs) T (gA48_32c vs T zs xs g4 g6 o4 off n cp m).ex (gA48_32c vs T zs xs g4 g6 o4 off n cp m).fm (gA48_32c vs T zs xs g4 g6 o4 off n cp m).tab := by
  obtain ⟨hT, hv, h1, h2, _⟩ := h.h
  simp only [Con.h] at hT hv h1 h2
  injection hv with hv
  subst hT hv
  subst h1
  exact loopA48_32 h2
noncomputable def gA48_32 : List AVal → Tab → Out := fun vs T => gA48_32c vs T (xsAt T 4) (xsAt T 6) (gAt T 4) (gAt T 6) (owAt T 4) (offOf (vAt vs 0)) (lenOf (vAt vs 0)) (capOf (vAt vs 0)) (lenOf (vAt vs 2))
theorem gA48_32_ok : BlkOk (eS0 []) f48 0 (.loop (roundOf 0 f48)) (blkS 7 [1,2,5] gA48_32) := blkS_ok fun vs T h => gA48_32c_ok h
noncomputable def gC48_32c (vs : List AVal) (T : Tab) (zs : List Int) (xs : List Int) (g4 : Nat) (g6 : Nat) (o4 : Bool) (m : Nat) (x : Int) : Out := ⟨[.tab T [some ⟨.ints .i64 [7, 18, 3], 0, false, 3⟩, some ⟨.ints .i64 [17, 19, 10], 0, false, 3⟩, some ⟨.ints .i64 [2, 13, 22], 0, false, 3⟩, some ⟨.ints .i64 [6, 11, 25], 0, false, 3⟩, some ⟨.ints .u8 zs, g4, o4, 5⟩, some ⟨.agg [.int .i64 32, .int .i64 64, .int .i64 64, .slice 1 0 0 0 3 (some 3), .slice 1 1 0 0 3 (some 3), .slice 1 2 0 0 3 (some 3), .slice 1 3 0 0 3 (some 3)], 0, true, 54⟩, some ⟨.ints .u8 xs, g6, true, 5⟩], .val (.tuple vs) (.tuple [.slice 1 6 g6 0 m none, .int .u64 x, .int .i64 7]), .eqN m xs.length, .leN (xs.length + 64) 140737488355328], .normal, [(5, .slice 1 6 (g6 + 8) 0 (m + 8) none)], [some ⟨.ints .i64 [7, 18, 3], 0, false, 3⟩, some ⟨.ints .i64 [17, 19, 10], 0, false, 3⟩, some ⟨.ints .i64 [2, 13, 22], 0, false, 3⟩, some ⟨.ints .i64 [6, 11, 25], 0, false, 3⟩, some ⟨.ints .u8 zs, g4, o4, 5⟩, some ⟨.agg [.int .i64 32, .int .i64 64, .int .i64 64, .slice 1 0 0 0 3 (some 3), .slice 1 1 0 0 3 (some 3), .slice 1 2 0 0 3 (some 3), .slice 1 3 0 0 3 (some 3)], 0, true, 54⟩, some ⟨.ints .u8 (xs ++ zeroLaw 0 ++ beLaw 8 x), g6 + 8, true, 5⟩], []⟩
theorem gC48_32c_ok {vs : List AVal} {T : Tab} {zs : List Int} {xs : List Int} {g4 : Nat} {g6 : Nat} {o4 : Bool} {m : Nat} {x : Int} (h : Ok (gC48_32c vs T zs xs g4 g6 o4 m x)) : To (eS0 []) 53 7 (.block 2 (.loop (roundOf 2 f48))) (zipF [5,6,7] vs) T (gC48_32c vs T zs xs g4 g6 o4 m x).ex (gC48_32c vs T zs xs g4 g6 o4 m x).fm (gC48_32c vs T zs xs g4 g6 o4 m x).tab := by
  obtain ⟨hT, hv, h1, h2, _⟩ := h.h
  simp only [Con.h] at hT hv h1 h2
  injection hv with hv
  subst hT hv
  subst h1
  refine To.of (o := C48_32 x zs xs g4 g6 o4) eS0_ok hmS (Nat.le_refl 7) OrcOk.nil rfl (C48_32_ok ?_) C48_32_ex (by rw [C48_32_fm]; simp only [addO_eq]; rfl) ?_
  · simp only [allP, Con.h, addO_eq, List.take_length, take_snoc, List.length_append, List.length_cons, List.length_nil, Nat.zero_add, Nat.le_refl, eq_self, true_and, and_true]
    omega
  · rw [C48_32_tab]
    simp only [addO_eq, List.take_length, take_snoc, List.length_append, List.length_cons, List.length_nil, Nat.zero_add]
    show _ = ([some ⟨.ints .i64 [7, 18, 3], 0, false, 3⟩, some ⟨.ints .i64 [17, 19, 10], 0, false, 3⟩, some ⟨.ints .i64 [2, 13, 22], 0, false, 3⟩, some ⟨.ints .i64 [6, 11, 25], 0, false, 3⟩, some ⟨.ints .u8 zs, g4, o4, 5⟩, some ⟨.agg [.int .i64 32, .int .i64 64, .int .i64 64, .slice 1 0 0 0 3 (some 3), .slice 1 1 0 0 3 (some 3), .slice 1 2 0 0 3 (some 3), .slice 1 3 0 0 3 (some 3)], 0, true, 54⟩, some ⟨.ints .u8 (xs ++ zeroLaw 0 ++ beLaw 8 x), g6 + 8, true, 5⟩] : Tab)
    simp only [List.append_assoc]
    rfl
noncomputable def gC48_32 : List AVal → Tab → Out := fun vs T => gC48_32c vs T (xsAt T 4) (xsAt T 6) (gAt T 4) (gAt T 6) (owAt T 4) (lenOf (vAt vs 0)) (iOf (vAt vs 1))
theorem gC48_32_ok : BlkOk (eS0 []) f48 2 (.loop (roundOf 2 f48)) (blkS 7 [5,6,7] gC48_32) := blkS_ok fun vs T h => gC48_32c_ok h
noncomputable def orc48_32 : OrcL := [(0, blkS 7 [1,2,5] gA48_32), (2, blkS 7 [5,6,7] gC48_32)]
theorem orc48_32_ok : FnOrc (eS0 []) f48 orc48_32 := FnOrc.cons gA48_32_ok (by kernel_rfl) (FnOrc.cons gC48_32_ok (by kernel_rfl) FnOrc.nil)
noncomputable def R48_32 (zs : List Int) (g4 off n : Nat) (cp : Option Nat) : Res := resG 5 [0, 1, 2, 3, 4, 6] (runF (eS0 []) f48 orc48_32 1000 [.agg [.int .i64 32, .int .i64 64, .int .i64 64, .slice 1 0 0 0 3 (some 3), .slice 1 1 0 0 3 (some 3), .slice 1 2 0 0 3 (some 3), .slice 1 3 0 0 3 (some 3)], .slice 1 4 g4 off n cp] [some ⟨.ints .i64 [7, 18, 3], 0, false, 3⟩, some ⟨.ints .i64 [17, 19, 10], 0, false, 3⟩, some ⟨.ints .i64 [2, 13, 22], 0, false, 3⟩, some ⟨.ints .i64 [6, 11, 25], 0, false, 3⟩, some ⟨.ints .u8 zs, g4, false, 5⟩] [])
theorem R48_32_ok {zs : List Int} {g4 off n : Nat} {cp : Option Nat} (h : allP [.leN n 140737488355328, .eqN g4 g4, .leN (off + n) zs.length, .leN (0 + n) ([] ++ List.take n (dropO off zs)).length, .leN (addO n 1) 140737488355328, .eqN (addO n 1) (List.take n ([] ++ List.take n (dropO off zs)) ++ [128]).length, .leN ((List.take n ([] ++ List.take n (dropO off zs)) ++ [128]).length + 64)
 140737488355328, .eqN g4 g4, .rng 0 (↑n : Int) 18446744073709551615, .eqN (addO n 1 + padLaw 64 (addO n 1)) (List.take n ([] ++ List.take n (dropO off zs)) ++ [128] ++ zeroLaw (padLaw 64 (addO n 1))).length, .leN ((List.take n ([] ++ List.take n (dropO off zs)) ++ [128] ++ zeroLaw (padLaw 64 (addO n 1))).length + 64) 140737488355328]) : OkR (R48_32 zs g4 off n cp) := OkR.dem (fl := bitsF 32
 264300487) (by kernel_rfl) (by kernel_rfl) (by kernel_rfl) h
theorem R48_32_val {zs : List Int} {g4 off n : Nat} {cp : Option Nat} : (R48_32 zs g4 off n cp).val = .slice 1 5 (2 + padLaw 64 (addO n 1) + 8) 0 (addO n 1 + padLaw 64 (addO n 1) + 8) none := by kernel_rfl
theorem R48_32_tab {zs : List Int} {g4 off n : Nat} {cp : Option Nat} : (R48_32 zs g4 off n cp).tab = [some ⟨.ints .i64 [7, 18, 3], 0, false, 3⟩, some ⟨.ints .i64 [17, 19, 10], 0, false, 3⟩, some ⟨.ints .i64 [2, 13, 22], 0, false, 3⟩, some ⟨.ints .i64 [6, 11, 25], 0, false, 3⟩, some ⟨.ints .u8 zs, g4, false, 5⟩, some ⟨.ints .u8 (List.take n ([] ++ List.take n (dropO off zs)) ++ [128] ++ zeroLaw
 (padLaw 64 (addO n 1)) ++ zeroLaw 0 ++ beLaw 8 ((↑n : Int) * 8 % 18446744073709551616)), 2 + padLaw 64 (addO n 1) + 8, true, 5⟩] := by kernel_rfl
/-! width 64 -/
def FA48_64 (g4 off n : Nat) (cp : Option Nat) (g6 m : Nat) : Fm := [(1, .slice 1 4 g4 off n cp), (2, .var 5 0), (5, .slice 1 6 g6 0 m none)]
def TA48_64 (zs : List Int) (g4 : Nat) (o4 : Bool) (xs : List Int) (g6 : Nat) : Tab := [some ⟨.ints .i64 [1, 8, 7], 0, false, 3⟩, some ⟨.ints .i64 [19, 61, 6], 0, false, 3⟩, some ⟨.ints .i64 [28, 34, 39], 0, false, 3⟩, some ⟨.ints .i64 [14, 18, 41], 0, false, 3⟩, some ⟨.ints .u8 zs, g4, o4, 5⟩, some ⟨.agg [.int .i64 64, .int .i64 128, .int .i64 80, .slice 1 0 0 0 3 (some 3), .slice 1 1 0 0 3 (some 3), .slice 1 2 0 0 3 (some 3), .slice 1 3 0 0 3 (some 3)], 0, true, 54⟩, some ⟨.ints .u8 xs, g6, true, 5⟩]
theorem loopA48_64 {zs xs : List Int} {g4 g6 off n : Nat} {cp : Option Nat} {o4 : Bool} (hl : xs.length + 128 ≤ 140737488355328) :
    To (eS0 []) 53 7 (.block 0 (.loop (roundOf 0 f48))) (FA48_64 g4 off n cp g6 xs.length) (TA48_64 zs g4 o4 xs g6) .normal (FA48_64 g4 off n cp (g6 + padLaw 128 xs.length) (xs.length + padLaw 128 xs.length)) (TA48_64 zs g4 o4 (xs ++ zeroLaw (padLaw 128 xs.length)) (g6 + padLaw 128 xs.length)) := by
  have hle := pad128_le xs.length
  have hat := pad128_at xs.length
  refine To.start (T0 := TA48_64 zs g4 o4 (xs ++ zeroLaw 0) g6) (by rw [show xs ++ zeroLaw 0 = xs from List.append_nil _]) ?_
  refine To.rounds (fun i => FA48_64 g4 off n cp (g6 + i) (xs.length + i)) (fun i => TA48_64 zs g4 o4 (xs ++ zeroLaw i) (g6 + i)) (padLaw 128 xs.length) (fun i hi => ?_)
    (To.of (o := B48_64 off n (xs.length + padLaw 128 xs.length) cp zs (xs ++ zeroLaw (padLaw 128 xs.length)) g4 (g6 + padLaw 128 xs.length) o4) eS0_ok hmS (Nat.le_refl 7) OrcOk.nil rfl (B48_64_ok ?_) B48_64_ex B48_64_fm B48_64_tab)
  · have hne := pad128_lt hi
    have hlen : (xs ++ zeroLaw i).length = xs.length + i := by rw [List.length_append, zero_len]
    refine To.of (o := A48_64 off n (xs.length + i) cp zs (xs ++ zeroLaw i) g4 (g6 + i) o4) eS0_ok hmS (Nat.le_refl 7) OrcOk.nil rfl (A48_64_ok ?_) A48_64_ex (by rw [A48_64_fm, addO_eq]; rfl) ?_
    · simp only [allP, Con.h, hlen, addO_eq, Nat.zero_add, Nat.le_refl, eq_self, true_and, and_true]
      refine ⟨by omega, ?_, by omega⟩
      rw [show (((xs.length + i : Nat) : Int) + 16) = ((xs.length + i + 16 : Nat) : Int) by omega, show (128 : Int) = ((128 : Nat) : Int) from rfl, tmod_nat, bne_iff_ne]
      omega
    · rw [A48_64_tab, List.take_of_length_le (by omega), zero_snoc]
      rfl
  · simp only [allP, Con.h, eq_self, true_and, and_true]
    refine ⟨by omega, ?_⟩
    rw [show (((xs.length + padLaw 128 xs.length : Nat) : Int) + 16) = ((xs.length + padLaw 128 xs.length + 16 : Nat) : Int) by omega, show (128 : Int) = ((128 : Nat) : Int) from rfl, tmod_nat, show (xs.length + padLaw 128 xs.length + 16) % 128 = 0 by omega]
    rfl
noncomputable def gA48_64c (vs : List AVal) (T : Tab) (zs : List Int) (xs : List Int) (g4 : Nat) (g6 : Nat) (o4 : Bool) (off : Nat) (n : Nat) (cp : Option Nat) (m : Nat) : Out := ⟨[.tab T [some ⟨.ints .i64 [1, 8, 7], 0, false, 3⟩, some ⟨.ints .i64 [19, 61, 6], 0, false, 3⟩, some ⟨.ints .i64 [28, 34, 39], 0, false, 3⟩, some ⟨.ints .i64 [14, 18, 41], 0, false, 3⟩, some ⟨.ints .u8 zs, g4, o4, 5⟩, some ⟨.agg [.int .i64 64, .int .i64 128, .int .i64 80, .slice 1 0 0 0 3 (some 3), .slice 1 1 0 0 3 (some 3), .slice 1 2 0 0 3 (some 3), .slice 1 3 0 0 3 (some 3)], 0, true, 54⟩, some ⟨.ints .u8 xs, g6, true, 5⟩], .val (.tuple vs) (.tuple [.slice 1 4 g4 off n cp, .var 5 0, .slice 1 6 g6 0 m none]), .eqN m xs.length, .leN (xs.length + 128) 140737488355328], .normal, [(1, .slice 1 4 g4 off n cp), (2, .var 5 0), (5, .slice 1 6 (g6 + padLaw 128 m) 0 (m + padLaw 128 m) none)], [some ⟨.ints .i64 [1, 8, 7], 0, false, 3⟩, some ⟨.ints .i64 [19, 61, 6], 0, false, 3⟩, some ⟨.ints .i64 [28, 34, 39], 0, false, 3⟩, some ⟨.ints .i64 [14, 18, 41], 0, false, 3⟩, some ⟨.ints .u8 zs, g4, o4, 5⟩, some ⟨.agg [.int .i64 64, .int .i64 128, .int .i64 80, .slice 1 0 0 0 3 (some 3), .slice 1 1 0 0 3 (some 3), .slice 1 2 0 0 3 (some 3), .slice 1 3 0 0 3 (some 3)], 0, true, 54⟩, some ⟨.ints .u8 (xs ++ zeroLaw (padLaw 128 m)), g6 + padLaw 128 m, true, 5⟩], []⟩
theorem gA48_64c_ok {vs : List AVal} {T : Tab} {zs : List Int} {xs : List Int} {g4 : Nat} {g6 : Nat} {o4 : Bool} {off : Nat} {n : Nat} {cp : Option Nat} {m : Nat} (h : Ok (gA48_64c vs T zs xs g4 g6 o4 off n cp m)) : To (eS0 []) 53 7 (.block 0 (.loop (roundOf 0 f48))) (zipF [1,2,5] vs) T (gA48_64c vs T zs xs g4 g6 o4 off n cp m).ex (gA48_64c vs T zs xs g4 g6 o4 off n cp m).fm (gA48_64c vs T zs xs g4 g6 o4 off n cp m).tab := by
  obtain ⟨hT, hv, h1, h2, _⟩ := h.h
  simp only [Con.h] at hT hv h1 h2
  injection hv with hv
  subst hT hv
  subst h1
  exact loopA48_64 h2
noncomputable def gA48_64 : List AVal → Tab → Out := fun vs T => gA48_64c vs T (xsAt T 4) (xsAt T 6) (gAt T 4) (gAt T 6) (owAt T 4) (offOf (vAt vs 0)) (lenOf (vAt vs 0)) (capOf (vAt vs 0)) (lenOf (vAt vs 2))
theorem gA48_64_ok : BlkOk (eS0 []) f48 0 (.loop (roundOf 0 f48)) (blkS 7 [1,2,5] gA48_64) := blkS_ok fun vs T h => gA48_64c_ok h
noncomputable def gC48_64c (vs : List AVal) (T : Tab) (zs : List Int) (xs : List Int) (g4 : Nat) (g6 : Nat) (o4 : Bool) (m : Nat) (x : Int) : Out := ⟨[.tab T [some ⟨.ints .i64 [1, 8, 7], 0, false, 3⟩, some ⟨.ints .i64 [19, 61, 6], 0, false, 3⟩, some ⟨.ints .i64 [28, 34, 39], 0, false, 3⟩, some ⟨.ints .i64 [14, 18, 41], 0, false, 3⟩, some ⟨.ints .u8 zs, g4, o4, 5⟩, some ⟨.agg [.int .i64 64, .int .i64 128, .int .i64 80, .slice 1 0 0 0 3 (some 3), .slice 1 1 0 0 3 (some 3), .slice 1 2 0 0 3 (some 3), .slice 1 3 0 0 3 (some 3)], 0, true, 54⟩, some ⟨.ints .u8 xs, g6, true, 5⟩], .val (.tuple vs) (.tuple [.slice 1 6 g6 0 m none, .int .u64 x, .int .i64 15]), .eqN m xs.length, .leN (xs.length + 128) 140737488355328], .normal, [(5, .slice 1 6 (g6 + 16) 0 (m + 16) none)], [some ⟨.ints .i64 [1, 8, 7], 0, false, 3⟩, some ⟨.ints .i64 [19, 61, 6], 0, false, 3⟩, some ⟨.ints .i64 [28, 34, 39], 0, false, 3⟩, some ⟨.ints .i64 [14, 18, 41], 0, false, 3⟩, some ⟨.ints .u8 zs, g4, o4, 5⟩, some ⟨.agg [.int .i64 64, .int .i64 128, .int .i64 80, .slice 1 0 0 0 3 (some 3), .slice 1 1 0 0 3 (some 3), .slice 1 2 0 0 3 (some 3), .slice 1 3 0 0 3 (some 3)], 0, true, 54⟩, some ⟨.ints .u8 (xs ++ zeroLaw 8 ++ beLaw 8 x), g6 + 16, true, 5⟩], []⟩
theorem gC48_64c_ok {vs : List AVal} {T : Tab} {zs : List Int} {xs : List Int} {g4 : Nat} {g6 : Nat} {o4 : Bool} {m : Nat} {x : Int} (h : Ok (gC48_64c vs T zs xs g4 g6 o4 m x)) : To (eS0 []) 53 7 (.block 2 (.loop (roundOf 2 f48))) (zipF [5,6,7] vs) T (gC48_64c vs T zs xs g4 g6 o4 m x).ex (gC48_64c vs T zs xs g4 g6 o4 m x).fm (gC48_64c vs T zs xs g4 g6 o4 m x).tab := by
  obtain ⟨hT, hv, h1, h2, _⟩ := h.h
  simp only [Con.h] at hT hv h1 h2
  injection hv with hv
  subst hT hv
  subst h1
  refine To.of (o := C48_64 x zs xs g4 g6 o4) eS0_ok hmS (Nat.le_refl 7) OrcOk.nil rfl (C48_64_ok ?_) C48_64_ex (by rw [C48_64_fm]; simp only [addO_eq]; rfl) ?_
  · simp only [allP, Con.h, addO_eq, List.take_length, take_snoc, List.length_append, List.length_cons, List.length_nil, Nat.zero_add, Nat.le_refl, eq_self, true_and, and_true]
    omega
  · rw [C48_64_tab]
    simp only [addO_eq, List.take_length, take_snoc, List.length_append, List.length_cons, List.length_nil, Nat.zero_add]
    show _ = ([some ⟨.ints .i64 [1, 8, 7], 0, false, 3⟩, some ⟨.ints .i64 [19, 61, 6], 0, false, 3⟩, some ⟨.ints .i64 [28, 34, 39], 0, false, 3⟩, some ⟨.ints .i64 [14, 18, 41], 0, false, 3⟩, some ⟨.ints .u8 zs, g4, o4, 5⟩, some ⟨.agg [.int .i64 64, .int .i64 128, .int .i64 80, .slice 1 0 0 0 3 (some 3), .slice 1 1 0 0 3 (some 3), .slice 1 2 0 0 3 (some 3), .slice 1 3 0 0 3 (some 3)], 0, true, 54⟩, some ⟨.ints .u8 (xs ++ zeroLaw 8 ++ beLaw 8 x), g6 + 16, true, 5⟩] : Tab)
    simp only [List.append_assoc]
    rfl
noncomputable def gC48_64 : List AVal → Tab → Out := fun vs T => gC48_64c vs T (xsAt T 4) (xsAt T 6) (gAt T 4) (gAt T 6) (owAt T 4) (lenOf (vAt vs 0)) (iOf (vAt vs 1))
theorem gC48_64_ok : BlkOk (eS0 []) f48 2 (.loop (roundOf 2 f48)) (blkS 7 [5,6,7] gC48_64) := blkS_ok fun vs T h => gC48_64c_ok h
noncomputable def orc48_64 : OrcL := [(0, blkS 7 [1,2,5] gA48_64), (2, blkS 7 [5,6,7] gC48_64)]
theorem orc48_64_ok : FnOrc (eS0 []) f48 orc48_64 := FnOrc.cons gA48_64_ok (by kernel_rfl) (FnOrc.cons gC48_64_ok (by kernel_rfl) FnOrc.nil)
noncomputable def R48_64 (zs : List Int) (g4 off n : Nat) (cp : Option Nat) : Res := resG 5 [0, 1, 2, 3, 4, 6] (runF (eS0 []) f48 orc48_64 1000 [.agg [.int .i64 64, .int .i64 128, .int .i64 80, .slice 1 0 0 0 3 (some 3), .slice 1 1 0 0 3 (some 3), .slice 1 2 0 0 3 (some 3), .slice 1 3 0 0 3 (some 3)], .slice 1 4 g4 off n cp] [some ⟨.ints .i64 [1, 8, 7], 0, false, 3⟩, some ⟨.ints .i64 [19, 61, 6], 0, false, 3⟩, some ⟨.ints .i64 [28, 34, 39], 0, false, 3⟩, some ⟨.ints .i64 [14, 18, 41], 0, false, 3⟩, some ⟨.ints .u8 zs, g4, false, 5⟩] [])
theorem R48_64_ok {zs : List Int} {g4 off n : Nat} {cp : Option Nat} (h : allP [.leN n 140737488355328, .eqN g4 g4, .leN (off + n) zs.length, .leN (0 + n) ([] ++ List.take n (dropO off zs)).length, .leN (addO n 1) 140737488355328, .eqN (addO n 1) (List.take n ([] ++ List.take n (dropO off zs)) ++ [128]).length, .leN ((List.take n ([] ++ List.take n (dropO off zs)) ++ [128]).length + 128)
 140737488355328, .eqN g4 g4, .rng 0 (↑n : Int) 18446744073709551615, .eqN (addO n 1 + padLaw 128 (addO n 1)) (List.take n ([] ++ List.take n (dropO off zs)) ++ [128] ++ zeroLaw (padLaw 128 (addO n 1))).length, .leN ((List.take n ([] ++ List.take n (dropO off zs)) ++ [128] ++ zeroLaw (padLaw 128 (addO n 1))).length + 128) 140737488355328]) : OkR (R48_64 zs g4 off n cp) := OkR.dem (fl := bitsF 32
 264300487) (by kernel_rfl) (by kernel_rfl) (by kernel_rfl) h
theorem R48_64_val {zs : List Int} {g4 off n : Nat} {cp : Option Nat} : (R48_64 zs g4 off n cp).val = .slice 1 5 (2 + padLaw 128 (addO n 1) + 16) 0 (addO n 1 + padLaw 128 (addO n 1) + 16) none := by kernel_rfl
theorem R48_64_tab {zs : List Int} {g4 off n : Nat} {cp : Option Nat} : (R48_64 zs g4 off n cp).tab = [some ⟨.ints .i64 [1, 8, 7], 0, false, 3⟩, some ⟨.ints .i64 [19, 61, 6], 0, false, 3⟩, some ⟨.ints .i64 [28, 34, 39], 0, false, 3⟩, some ⟨.ints .i64 [14, 18, 41], 0, false, 3⟩, some ⟨.ints .u8 zs, g4, false, 5⟩, some ⟨.ints .u8 (List.take n ([] ++ List.take n (dropO off zs)) ++ [128] ++ zeroLaw
 (padLaw 128 (addO n 1)) ++ zeroLaw 8 ++ beLaw 8 ((↑n : Int) * 8 % 18446744073709551616)), 2 + padLaw 128 (addO n 1) + 16, true, 5⟩] := by kernel_rfl
end Go.Abs
