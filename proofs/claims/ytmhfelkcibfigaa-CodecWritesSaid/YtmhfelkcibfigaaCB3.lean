/- What functions of the given program come to, by the abstract machine: one text of a proof. -/
import Derived.Test.YtmhfelkcibfigaaCB2
set_option linter.unusedVariables false
set_option linter.unusedSimpArgs false
set_option maxRecDepth 8000
namespace Go.Abs
open Go.Proofs.Try
theorem bad17 {n size : Int} (hs : ¬ sizedLaw size) : Small prog (fun _ => none) 17 [.int .i64 n, .int .i64 size] [] (num17Law n size) [some ⟨.ints .u8 (numLaw n size), (numLaw n size).length - 1, true, 5⟩] := by
  unfold num17Law
  rw [(num_bad hs).1, (num_bad hs).2]
  unfold sizedLaw at hs
  exact small_nil2 .u8 5 (.inr rfl) (small_of (R := R17x n size) eC6x_ok hmC (f := 17) (fn := f17) (by kernel_rfl) (by kernel_rfl) FnOrc.nil rfl (R17x_ok (by simp [allP, Con.h]; omega)) R17x_val R17x_tab) (Nat.le_refl 0)

theorem in17_1 {n : Int} (h : 0 ≤ n ∧ n < 256) : Small prog (fun _ => none) 17 [.int .i64 n, .int .i64 1] [] (num17Law n 1) [some ⟨.ints .u8 (numLaw n 1), (numLaw n 1).length - 1, true, 5⟩] := by
  have hm : 0 ≤ n ∧ n < mostLaw 1 := h
  have e := num_in (n := n) (size := 1) (by decide) hm
  unfold num17Law
  rw [e.1, e.2]
  have eb : beLaw n (Int.toNat 1) = [n / 1 % 256] := by kernel_rfl
  rw [eb]
  exact small_of (R := R17_1 n) eC6_ok hmC (f := 17) (fn := f17) (by kernel_rfl) (by kernel_rfl) FnOrc.nil rfl (R17_1_ok (by simp [allP, Con.h]; omega)) R17_1_val R17_1_tab
theorem out17_1 {n : Int} (h : ¬ (0 ≤ n ∧ n < 256)) : Small prog (fun _ => none) 17 [.int .i64 n, .int .i64 1] [] (num17Law n 1) [some ⟨.ints .u8 (numLaw n 1), (numLaw n 1).length - 1, true, 5⟩] := by
  have hm : ¬ (0 ≤ n ∧ n < mostLaw 1) := h
  have e := num_out (n := n) (size := 1) (by decide) hm
  unfold num17Law
  rw [e.1, e.2]
  by_cases h0 : n < 0
  · exact small_nil2 .u8 5 (.inr rfl) (small_of (R := R17n_1 n) eC6_ok hmC (f := 17) (fn := f17) (by kernel_rfl) (by kernel_rfl) FnOrc.nil rfl (R17n_1_ok (by simp [allP, Con.h]; omega)) R17n_1_val R17n_1_tab) (Nat.le_refl 0)
  · exact small_nil2 .u8 5 (.inr rfl) (small_of (R := R17g_1 n) eC6_ok hmC (f := 17) (fn := f17) (by kernel_rfl) (by kernel_rfl) FnOrc.nil rfl (R17g_1_ok (by simp [allP, Con.h]; omega)) R17g_1_val R17g_1_tab) (Nat.le_refl 0)
theorem in17_2 {n : Int} (h : 0 ≤ n ∧ n < 65536) : Small prog (fun _ => none) 17 [.int .i64 n, .int .i64 2] [] (num17Law n 2) [some ⟨.ints .u8 (numLaw n 2), (numLaw n 2).length - 1, true, 5⟩] := by
  have hm : 0 ≤ n ∧ n < mostLaw 2 := h
  have e := num_in (n := n) (size := 2) (by decide) hm
  unfold num17Law
  rw [e.1, e.2]
  have eb : beLaw n (Int.toNat 2) = [n / 256 % 256, n / 1 % 256] := by kernel_rfl
  rw [eb]
  exact small_of (R := R17_2 n) eC6_ok hmC (f := 17) (fn := f17) (by kernel_rfl) (by kernel_rfl) FnOrc.nil rfl (R17_2_ok (by simp [allP, Con.h]; omega)) R17_2_val R17_2_tab
theorem out17_2 {n : Int} (h : ¬ (0 ≤ n ∧ n < 65536)) : Small prog (fun _ => none) 17 [.int .i64 n, .int .i64 2] [] (num17Law n 2) [some ⟨.ints .u8 (numLaw n 2), (numLaw n 2).length - 1, true, 5⟩] := by
  have hm : ¬ (0 ≤ n ∧ n < mostLaw 2) := h
  have e := num_out (n := n) (size := 2) (by decide) hm
  unfold num17Law
  rw [e.1, e.2]
  by_cases h0 : n < 0
  · exact small_nil2 .u8 5 (.inr rfl) (small_of (R := R17n_2 n) eC6_ok hmC (f := 17) (fn := f17) (by kernel_rfl) (by kernel_rfl) FnOrc.nil rfl (R17n_2_ok (by simp [allP, Con.h]; omega)) R17n_2_val R17n_2_tab) (Nat.le_refl 0)
  · exact small_nil2 .u8 5 (.inr rfl) (small_of (R := R17g_2 n) eC6_ok hmC (f := 17) (fn := f17) (by kernel_rfl) (by kernel_rfl) FnOrc.nil rfl (R17g_2_ok (by simp [allP, Con.h]; omega)) R17g_2_val R17g_2_tab) (Nat.le_refl 0)
theorem in17_4 {n : Int} (h : 0 ≤ n ∧ n < 4294967296) : Small prog (fun _ => none) 17 [.int .i64 n, .int .i64 4] [] (num17Law n 4) [some ⟨.ints .u8 (numLaw n 4), (numLaw n 4).length - 1, true, 5⟩] := by
  have hm : 0 ≤ n ∧ n < mostLaw 4 := h
  have e := num_in (n := n) (size := 4) (by decide) hm
  unfold num17Law
  rw [e.1, e.2]
  have eb : beLaw n (Int.toNat 4) = [n / 16777216 % 256, n / 65536 % 256, n / 256 % 256, n / 1 % 256] := by kernel_rfl
  rw [eb]
  exact small_of (R := R17_4 n) eC6_ok hmC (f := 17) (fn := f17) (by kernel_rfl) (by kernel_rfl) FnOrc.nil rfl (R17_4_ok (by simp [allP, Con.h]; omega)) R17_4_val R17_4_tab
theorem out17_4 {n : Int} (h : ¬ (0 ≤ n ∧ n < 4294967296)) : Small prog (fun _ => none) 17 [.int .i64 n, .int .i64 4] [] (num17Law n 4) [some ⟨.ints .u8 (numLaw n 4), (numLaw n 4).length - 1, true, 5⟩] := by
  have hm : ¬ (0 ≤ n ∧ n < mostLaw 4) := h
  have e := num_out (n := n) (size := 4) (by decide) hm
  unfold num17Law
  rw [e.1, e.2]
  by_cases h0 : n < 0
  · exact small_nil2 .u8 5 (.inr rfl) (small_of (R := R17n_4 n) eC6_ok hmC (f := 17) (fn := f17) (by kernel_rfl) (by kernel_rfl) FnOrc.nil rfl (R17n_4_ok (by simp [allP, Con.h]; omega)) R17n_4_val R17n_4_tab) (Nat.le_refl 0)
  · exact small_nil2 .u8 5 (.inr rfl) (small_of (R := R17g_4 n) eC6_ok hmC (f := 17) (fn := f17) (by kernel_rfl) (by kernel_rfl) FnOrc.nil rfl (R17g_4_ok (by simp [allP, Con.h]; omega)) R17g_4_val R17g_4_tab) (Nat.le_refl 0)
theorem in17_8 {n : Int} (h : 0 ≤ n ∧ n < 4611686018427387904) : Small prog (fun _ => none) 17 [.int .i64 n, .int .i64 8] [] (num17Law n 8) [some ⟨.ints .u8 (numLaw n 8), (numLaw n 8).length - 1, true, 5⟩] := by
  have hm : 0 ≤ n ∧ n < mostLaw 8 := h
  have e := num_in (n := n) (size := 8) (by decide) hm
  unfold num17Law
  rw [e.1, e.2]
  have eb : beLaw n (Int.toNat 8) = [n / 72057594037927936 % 256, n / 281474976710656 % 256, n / 1099511627776 % 256, n / 4294967296 % 256, n / 16777216 % 256, n / 65536 % 256, n / 256 % 256, n / 1 % 256] := by kernel_rfl
  rw [eb]
  exact small_of (R := R17_8 n) eC6_ok hmC (f := 17) (fn := f17) (by kernel_rfl) (by kernel_rfl) FnOrc.nil rfl (R17_8_ok (by simp [allP, Con.h]; omega)) R17_8_val R17_8_tab
theorem out17_8 {n : Int} (h : ¬ (0 ≤ n ∧ n < 4611686018427387904)) : Small prog (fun _ => none) 17 [.int .i64 n, .int .i64 8] [] (num17Law n 8) [some ⟨.ints .u8 (numLaw n 8), (numLaw n 8).length - 1, true, 5⟩] := by
  have hm : ¬ (0 ≤ n ∧ n < mostLaw 8) := h
  have e := num_out (n := n) (size := 8) (by decide) hm
  unfold num17Law
  rw [e.1, e.2]
  by_cases h0 : n < 0
  · exact small_nil2 .u8 5 (.inr rfl) (small_of (R := R17n_8 n) eC6_ok hmC (f := 17) (fn := f17) (by kernel_rfl) (by kernel_rfl) FnOrc.nil rfl (R17n_8_ok (by simp [allP, Con.h]; omega)) R17n_8_val R17n_8_tab) (Nat.le_refl 0)
  · exact small_nil2 .u8 5 (.inr rfl) (small_of (R := R17g_8 n) eC6_ok hmC (f := 17) (fn := f17) (by kernel_rfl) (by kernel_rfl) FnOrc.nil rfl (R17g_8_ok (by simp [allP, Con.h]; omega)) R17g_8_val R17g_8_tab) (Nat.le_refl 0)
def sm17 : Summary := fun args T => match args, T with
  | [.int .i64 n, .int .i64 size], [] => ⟨[], num17Law n size, [some ⟨.ints .u8 (numLaw n size), (numLaw n size).length - 1, true, 5⟩]⟩
  | _, _ => fail
theorem sm17_ok : SmOk prog (fun _ => none) 17 sm17 := by
  intro args T hc
  unfold sm17 at hc ⊢
  split at hc
  · rename_i n size
    by_cases hs : sizedLaw size
    · rcases hs with rfl | rfl | rfl | rfl
      · by_cases h : 0 ≤ n ∧ n < 256
        · exact in17_1 h
        · exact out17_1 h
      · by_cases h : 0 ≤ n ∧ n < 65536
        · exact in17_2 h
        · exact out17_2 h
      · by_cases h : 0 ≤ n ∧ n < 4294967296
        · exact in17_4 h
        · exact out17_4 h
      · by_cases h : 0 ≤ n ∧ n < 4611686018427387904
        · exact in17_8 h
        · exact out17_8 h
    · exact bad17 hs
  · exact absurd hc nofail
def S17 : Summary := callR sm17 []
theorem S17_ok : SumOk prog (fun _ => none) 17 S17 := callR_ok sm17_ok []
/-! ### lengths -/
def lenLaw (n : Int) : List Int :=
  if n < 0 ∨ 1073741824 ≤ n then [] else if n < 64 then [n / 1 % 256] else if n < 16384 then [(n + 16384) / 256 % 256, (n + 16384) / 1 % 256]
  else [(n + 2147483648) / 16777216 % 256, (n + 2147483648) / 65536 % 256, (n + 2147483648) / 256 % 256, (n + 2147483648) / 1 % 256]
def lenErrLaw (n : Int) : Int := if n < 0 ∨ 1073741824 ≤ n then 11 else 0
theorem ior_add {a b : Int} {k : Nat} (ha : 0 ≤ a) (hk : a < 2 ^ k) (hb : 0 ≤ b) : ior a (b * 2 ^ k) = a + b * 2 ^ k := by
  obtain ⟨m, rfl⟩ := Int.eq_ofNat_of_zero_le ha
  obtain ⟨c, rfl⟩ := Int.eq_ofNat_of_zero_le hb
  have hm : m < 2 ^ k := by exact_mod_cast hk
  have e : ((c : Int) * 2 ^ k).toNat = c <<< k := by rw [Nat.shiftLeft_eq]; exact_mod_cast Int.toNat_natCast _
  unfold ior
  rw [e, Int.toNat_natCast, Nat.or_comm, ← Nat.shiftLeft_add_eq_or_of_lt hm, Nat.shiftLeft_eq]
  push_cast
  omega
noncomputable def R18a (n : Int) : Res := runF eC1 f18 [] 400 [.int .i64 n] [] [none, some true, some true]
theorem R18a_ok {n : Int} (h : allP [Con.p (decide (0 ≤ n) = true), Con.p ((n / 64 == 0) = true), Con.nn IntKind.i64 n]) : OkR (R18a n) := OkR.dem (fl := [true, true, false, true, true, true, false, true, true, true, true, false, true, true, true, true, true, true, true,
    true, true, true, true, true, true, true, true, true, true]) (by kernel_rfl) (by kernel_rfl) (by kernel_rfl) h
theorem R18a_val {n : Int} : (R18a n).val = AVal.tuple [AVal.slice 1 0 0 0 1 (some 1), AVal.int IntKind.i64 0] := by kernel_rfl
theorem R18a_tab {n : Int} : (R18a n).tab = [some { data := AVal.ints IntKind.u8 [ior n 0 / 1 % 256], g := 0, own := true, et := 5 }] := by kernel_rfl
noncomputable def R18b (n : Int) : Res := runF eC1 f18 [] 400 [.int .i64 n] [] [none, some true, some false, none, some true, some true]
theorem R18b_ok {n : Int} (h : allP [Con.p (decide (0 ≤ n) = true), Con.p ((n / 64 == 0) = false), Con.p (decide (0 ≤ n) = true),
    Con.p ((n / 16384 == 0) = true), Con.nn IntKind.i64 n]) : OkR (R18b n) := OkR.dem (fl := [true, true, false, true, true, true, false, true, true, true, false, true, true, true, false, true, true, true, true,
    false, true, true, true, true, true, true, true, true, true, true, true, true, true, true, true, true, true, true,
    true, true, true, true, true, true, true, true, true, true, true]) (by kernel_rfl) (by kernel_rfl) (by kernel_rfl) h
theorem R18b_val {n : Int} : (R18b n).val = AVal.tuple [AVal.slice 1 0 0 0 2 (some 2), AVal.int IntKind.i64 0] := by kernel_rfl
theorem R18b_tab {n : Int} : (R18b n).tab = [some
      { data := AVal.ints IntKind.u8 [ior n 16384 / 256 % 256, ior n 16384 / 1 % 256], g := 0, own := true, et := 5 }] := by kernel_rfl
noncomputable def R18c (n : Int) : Res := runF eC1 f18 [] 400 [.int .i64 n] [] [none, some true, some false, none, some true, some false, none, some true, some true]
theorem R18c_ok {n : Int} (h : allP [Con.p (decide (0 ≤ n) = true), Con.p ((n / 64 == 0) = false), Con.p (decide (0 ≤ n) = true),
    Con.p ((n / 16384 == 0) = false), Con.p (decide (0 ≤ n) = true), Con.p ((n / 1073741824 == 0) = true),
    Con.nn IntKind.i64 n]) : OkR (R18c n) := OkR.dem (fl := [true, true, false, true, true, true, false, true, true, true, false, true, true, true, false, true, true, true, false,
    true, true, true, false, true, true, true, true, false, true, true, true, true, true, true, true, true, true, true,
    true, true, true, true, true, true, true, true, true, true, true, true, true, true, true, true, true, true, true,
    true, true, true, true, true, true, true, true, true, true, true, true, true, true, true, true, true, true, true,
    true, true, true, true, true]) (by kernel_rfl) (by kernel_rfl) (by kernel_rfl) h
theorem R18c_val {n : Int} : (R18c n).val = AVal.tuple [AVal.slice 1 0 0 0 4 (some 4), AVal.int IntKind.i64 0] := by kernel_rfl
theorem R18c_tab {n : Int} : (R18c n).tab = [some
      {
        data :=
          AVal.ints IntKind.u8
            [ior n 2147483648 / 16777216 % 256, ior n 2147483648 / 65536 % 256, ior n 2147483648 / 256 % 256,
              ior n 2147483648 / 1 % 256],
        g := 0, own := true, et := 5 }] := by kernel_rfl
noncomputable def R18d (n : Int) : Res := runF eC1 f18 [] 400 [.int .i64 n] [] [none, some false, none, some false, none, some false]
theorem R18d_ok {n : Int} (h : allP [Con.p (decide (0 ≤ n) = false), Con.p (decide (0 ≤ n) = false), Con.p (decide (0 ≤ n) = false)]) : OkR (R18d n) := OkR.dem (fl := [true, true, false, true, true, true, false, true, true, true, false, true]) (by kernel_rfl) (by kernel_rfl) (by kernel_rfl) h
theorem R18d_val {n : Int} : (R18d n).val = AVal.tuple [AVal.nilSlice, AVal.int IntKind.i64 11] := by kernel_rfl
theorem R18d_tab {n : Int} : (R18d n).tab = [] := by kernel_rfl
noncomputable def R18e (n : Int) : Res := runF eC1 f18 [] 400 [.int .i64 n] [] [none, some true, some false, none, some true, some false, none, some true, some false]
theorem R18e_ok {n : Int} (h : allP [Con.p (decide (0 ≤ n) = true), Con.p ((n / 64 == 0) = false), Con.p (decide (0 ≤ n) = true),
    Con.p ((n / 16384 == 0) = false), Con.p (decide (0 ≤ n) = true), Con.p ((n / 1073741824 == 0) = false)]) : OkR (R18e n) := OkR.dem (fl := [true, true, false, true, true, true, false, true, true, true, false, true, true, true, false, true, true, true, false,
    true, true, true, false, true]) (by kernel_rfl) (by kernel_rfl) (by kernel_rfl) h
theorem R18e_val {n : Int} : (R18e n).val = AVal.tuple [AVal.nilSlice, AVal.int IntKind.i64 11] := by kernel_rfl
theorem R18e_tab {n : Int} : (R18e n).tab = [] := by kernel_rfl
noncomputable def R19a (n : Int) : Res := runF eC6 f19 [] 400 [.int .i64 n] [] [some false, some false, some true]
theorem R19a_ok {n : Int} (h : allP [Con.p (decide (n < 0) = false), Con.p (decide (1073741824 ≤ n) = false), Con.p (decide (n < 64) = true)]) : OkR (R19a n) := OkR.dem (fl := [false, false, false, true, true, true, true, true, true, true, true, true, true, true, true]) (by kernel_rfl) (by kernel_rfl) (by kernel_rfl) h
theorem R19a_val {n : Int} : (R19a n).val = AVal.tuple [AVal.slice 1 0 0 0 1 none, AVal.int IntKind.i64 0] := by kernel_rfl
theorem R19a_tab {n : Int} : (R19a n).tab = [some { data := AVal.ints IntKind.u8 [n / 1 % 256], g := 0, own := true, et := 5 }] := by kernel_rfl
noncomputable def R19b (n : Int) : Res := runF eC6 f19 [] 400 [.int .i64 n] [] [some false, some false, some false, some true]
theorem R19b_ok {n : Int} (h : allP [Con.p (decide (n < 0) = false), Con.p (decide (1073741824 ≤ n) = false), Con.p (decide (n < 64) = false),
    Con.p (decide (n < 16384) = true), Con.rng (-9223372036854775808) (n + 16384) 9223372036854775807]) : OkR (R19b n) := OkR.dem (fl := [false, false, false, false, false, true, true, true, true, true, true, true, true, true, true, true, true, true, true,
    true, true, true, true, true, true, true, true, true, true, true]) (by kernel_rfl) (by kernel_rfl) (by kernel_rfl) h
theorem R19b_val {n : Int} : (R19b n).val = AVal.tuple [AVal.slice 1 0 1 0 2 none, AVal.int IntKind.i64 0] := by kernel_rfl
theorem R19b_tab {n : Int} : (R19b n).tab = [some
      { data := AVal.ints IntKind.u8 [(n + 16384) / 256 % 256, (n + 16384) / 1 % 256], g := 1, own := true, et := 5 }] := by kernel_rfl
noncomputable def R19c (n : Int) : Res := runF eC6 f19 [] 400 [.int .i64 n] [] [some false, some false, some false, some false]
theorem R19c_ok {n : Int} (h : allP [Con.p (decide (n < 0) = false), Con.p (decide (1073741824 ≤ n) = false), Con.p (decide (n < 64) = false),
    Con.p (decide (n < 16384) = false), Con.rng (-9223372036854775808) (n + 2147483648) 9223372036854775807]) : OkR (R19c n) := OkR.dem (fl := [false, false, false, false, false, true, true, true, true, true, true, true, true, true, true, true, true, true, true,
    true, true, true, true, true, true, true, true, true, true, true, true, true, true, true, true, true, true, true,
    true, true, true, true, true, true, true, true, true, true, true, true, true, true, true, true, true, true]) (by kernel_rfl) (by kernel_rfl) (by kernel_rfl) h
theorem R19c_val {n : Int} : (R19c n).val = AVal.tuple [AVal.slice 1 0 3 0 4 none, AVal.int IntKind.i64 0] := by kernel_rfl
theorem R19c_tab {n : Int} : (R19c n).tab = [some
      {
        data :=
          AVal.ints IntKind.u8
            [(n + 2147483648) / 16777216 % 256, (n + 2147483648) / 65536 % 256, (n + 2147483648) / 256 % 256,
              (n + 2147483648) / 1 % 256],
        g := 3, own := true, et := 5 }] := by kernel_rfl
noncomputable def R19d (n : Int) : Res := runF eC6 f19 [] 400 [.int .i64 n] [] [some true]
theorem R19d_ok {n : Int} (h : allP [Con.p (decide (n < 0) = true)]) : OkR (R19d n) := OkR.dem (fl := [false]) (by kernel_rfl) (by kernel_rfl) (by kernel_rfl) h
theorem R19d_val {n : Int} : (R19d n).val = AVal.tuple [AVal.nilSlice, AVal.int IntKind.i64 11] := by kernel_rfl
theorem R19d_tab {n : Int} : (R19d n).tab = [] := by kernel_rfl
noncomputable def R19e (n : Int) : Res := runF eC6 f19 [] 400 [.int .i64 n] [] [some false, some true]
theorem R19e_ok {n : Int} (h : allP [Con.p (decide (n < 0) = false), Con.p (decide (1073741824 ≤ n) = true)]) : OkR (R19e n) := OkR.dem (fl := [false, false]) (by kernel_rfl) (by kernel_rfl) (by kernel_rfl) h
theorem R19e_val {n : Int} : (R19e n).val = AVal.tuple [AVal.nilSlice, AVal.int IntKind.i64 11] := by kernel_rfl
theorem R19e_tab {n : Int} : (R19e n).tab = [] := by kernel_rfl
end Go.Abs
