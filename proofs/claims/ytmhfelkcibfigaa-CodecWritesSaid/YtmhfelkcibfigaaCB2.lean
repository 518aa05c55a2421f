/- What functions of the given program come to, by the abstract machine: one text of a proof. -/
import Derived.Test.YtmhfelkcibfigaaCB1
import Derived.Test.YtmhfelkcibfigaaAbs2
set_option linter.unusedVariables false
set_option linter.unusedSimpArgs false
set_option maxRecDepth 8000
namespace Go.Abs
open Go.Proofs.Try
def beLaw (n : Int) (size : Nat) : List Int := (List.range size).map fun j => n / 2 ^ (8 * (size - 1 - j)) % 256
def mostLaw (size : Int) : Int := if size = 1 then 256 else if size = 2 then 65536 else if size = 4 then 4294967296 else 4611686018427387904
def sizedLaw (size : Int) : Prop := size = 1 ∨ size = 2 ∨ size = 4 ∨ size = 8
instance (size : Int) : Decidable (sizedLaw size) := by unfold sizedLaw; exact inferInstance
def numLaw (n size : Int) : List Int := if sizedLaw size ∧ 0 ≤ n ∧ n < mostLaw size then beLaw n size.toNat else []
def numErrLaw (n size : Int) : Int := if sizedLaw size then (if 0 ≤ n ∧ n < mostLaw size then 0 else 11) else 1
theorem num_in {n size : Int} (hs : sizedLaw size) (h : 0 ≤ n ∧ n < mostLaw size) : numLaw n size = beLaw n size.toNat ∧ numErrLaw n size = 0 := by
  unfold numLaw numErrLaw; rw [if_pos ⟨hs, h⟩, if_pos hs, if_pos h]; exact ⟨rfl, rfl⟩
theorem num_out {n size : Int} (hs : sizedLaw size) (h : ¬ (0 ≤ n ∧ n < mostLaw size)) : numLaw n size = [] ∧ numErrLaw n size = 11 := by
  unfold numLaw numErrLaw; rw [if_neg (fun x => h x.2), if_pos hs, if_neg h]; exact ⟨rfl, rfl⟩
theorem num_bad {n size : Int} (hs : ¬ sizedLaw size) : numLaw n size = [] ∧ numErrLaw n size = 1 := by
  unfold numLaw numErrLaw; rw [if_neg (fun x => hs x.1), if_neg hs]; exact ⟨rfl, rfl⟩
def num16Law (n size : Int) : AVal := .tuple [.slice 1 0 0 0 (numLaw n size).length (some (numLaw n size).length), .int .i64 (numErrLaw n size)]
def num17Law (n size : Int) : AVal := .tuple [.slice 1 0 ((numLaw n size).length - 1) 0 (numLaw n size).length none, .int .i64 (numErrLaw n size)]
theorem bad16 {n size : Int} (hs : ¬ sizedLaw size) : Small prog (fun _ => none) 16 [.int .i64 n, .int .i64 size] [] (num16Law n size) [some ⟨.ints .u8 (numLaw n size), 0, true, 5⟩] := by
  unfold num16Law
  rw [(num_bad hs).1, (num_bad hs).2]
  unfold sizedLaw at hs
  exact small_nil2 .u8 5 (.inl rfl) (small_of (R := R16x n size) eC1x_ok hmC (f := 16) (fn := f16) (by kernel_rfl) (by kernel_rfl) FnOrc.nil rfl (R16x_ok (by simp [allP, Con.h]; omega)) R16x_val R16x_tab) (Nat.le_refl 0)

theorem in16_1 {n : Int} (h : 0 ≤ n ∧ n < 256) : Small prog (fun _ => none) 16 [.int .i64 n, .int .i64 1] [] (num16Law n 1) [some ⟨.ints .u8 (numLaw n 1), 0, true, 5⟩] := by
  have hm : 0 ≤ n ∧ n < mostLaw 1 := h
  have e := num_in (n := n) (size := 1) (by decide) hm
  unfold num16Law
  rw [e.1, e.2]
  have eb : beLaw n (Int.toNat 1) = [n / 1 % 256] := by kernel_rfl
  rw [eb]
  have hd : n / 256 = 0 := by omega
  exact small_of (R := R16_1 n) eC1_ok hmC (f := 16) (fn := f16) (by kernel_rfl) (by kernel_rfl) FnOrc.nil rfl (R16_1_ok (by simp [allP, Con.h, hd]; omega)) R16_1_val R16_1_tab
theorem out16_1 {n : Int} (h : ¬ (0 ≤ n ∧ n < 256)) : Small prog (fun _ => none) 16 [.int .i64 n, .int .i64 1] [] (num16Law n 1) [some ⟨.ints .u8 (numLaw n 1), 0, true, 5⟩] := by
  have hm : ¬ (0 ≤ n ∧ n < mostLaw 1) := h
  have e := num_out (n := n) (size := 1) (by decide) hm
  unfold num16Law
  rw [e.1, e.2]
  by_cases h0 : n < 0
  · exact small_nil2 .u8 5 (.inl rfl) (small_of (R := R16n_1 n) eC1_ok hmC (f := 16) (fn := f16) (by kernel_rfl) (by kernel_rfl) FnOrc.nil rfl (R16n_1_ok (by simp [allP, Con.h]; omega)) R16n_1_val R16n_1_tab) (Nat.le_refl 0)
  · have hd : n / 256 ≠ 0 := by omega
    exact small_nil2 .u8 5 (.inl rfl) (small_of (R := R16g_1 n) eC1_ok hmC (f := 16) (fn := f16) (by kernel_rfl) (by kernel_rfl) FnOrc.nil rfl (R16g_1_ok (by simp [allP, Con.h, hd]; omega)) R16g_1_val R16g_1_tab) (Nat.le_refl 0)
theorem in16_2 {n : Int} (h : 0 ≤ n ∧ n < 65536) : Small prog (fun _ => none) 16 [.int .i64 n, .int .i64 2] [] (num16Law n 2) [some ⟨.ints .u8 (numLaw n 2), 0, true, 5⟩] := by
  have hm : 0 ≤ n ∧ n < mostLaw 2 := h
  have e := num_in (n := n) (size := 2) (by decide) hm
  unfold num16Law
  rw [e.1, e.2]
  have eb : beLaw n (Int.toNat 2) = [n / 256 % 256, n / 1 % 256] := by kernel_rfl
  rw [eb]
  have hd : n / 65536 = 0 := by omega
  exact small_of (R := R16_2 n) eC1_ok hmC (f := 16) (fn := f16) (by kernel_rfl) (by kernel_rfl) FnOrc.nil rfl (R16_2_ok (by simp [allP, Con.h, hd]; omega)) R16_2_val R16_2_tab
theorem out16_2 {n : Int} (h : ¬ (0 ≤ n ∧ n < 65536)) : Small prog (fun _ => none) 16 [.int .i64 n, .int .i64 2] [] (num16Law n 2) [some ⟨.ints .u8 (numLaw n 2), 0, true, 5⟩] := by
  have hm : ¬ (0 ≤ n ∧ n < mostLaw 2) := h
  have e := num_out (n := n) (size := 2) (by decide) hm
  unfold num16Law
  rw [e.1, e.2]
  by_cases h0 : n < 0
  · exact small_nil2 .u8 5 (.inl rfl) (small_of (R := R16n_2 n) eC1_ok hmC (f := 16) (fn := f16) (by kernel_rfl) (by kernel_rfl) FnOrc.nil rfl (R16n_2_ok (by simp [allP, Con.h]; omega)) R16n_2_val R16n_2_tab) (Nat.le_refl 0)
  · have hd : n / 65536 ≠ 0 := by omega
    exact small_nil2 .u8 5 (.inl rfl) (small_of (R := R16g_2 n) eC1_ok hmC (f := 16) (fn := f16) (by kernel_rfl) (by kernel_rfl) FnOrc.nil rfl (R16g_2_ok (by simp [allP, Con.h, hd]; omega)) R16g_2_val R16g_2_tab) (Nat.le_refl 0)
theorem in16_4 {n : Int} (h : 0 ≤ n ∧ n < 4294967296) : Small prog (fun _ => none) 16 [.int .i64 n, .int .i64 4] [] (num16Law n 4) [some ⟨.ints .u8 (numLaw n 4), 0, true, 5⟩] := by
  have hm : 0 ≤ n ∧ n < mostLaw 4 := h
  have e := num_in (n := n) (size := 4) (by decide) hm
  unfold num16Law
  rw [e.1, e.2]
  have eb : beLaw n (Int.toNat 4) = [n / 16777216 % 256, n / 65536 % 256, n / 256 % 256, n / 1 % 256] := by kernel_rfl
  rw [eb]
  have hd : n / 4294967296 = 0 := by omega
  exact small_of (R := R16_4 n) eC1_ok hmC (f := 16) (fn := f16) (by kernel_rfl) (by kernel_rfl) FnOrc.nil rfl (R16_4_ok (by simp [allP, Con.h, hd]; omega)) R16_4_val R16_4_tab
theorem out16_4 {n : Int} (h : ¬ (0 ≤ n ∧ n < 4294967296)) : Small prog (fun _ => none) 16 [.int .i64 n, .int .i64 4] [] (num16Law n 4) [some ⟨.ints .u8 (numLaw n 4), 0, true, 5⟩] := by
  have hm : ¬ (0 ≤ n ∧ n < mostLaw 4) := h
  have e := num_out (n := n) (size := 4) (by decide) hm
  unfold num16Law
  rw [e.1, e.2]
  by_cases h0 : n < 0
  · exact small_nil2 .u8 5 (.inl rfl) (small_of (R := R16n_4 n) eC1_ok hmC (f := 16) (fn := f16) (by kernel_rfl) (by kernel_rfl) FnOrc.nil rfl (R16n_4_ok (by simp [allP, Con.h]; omega)) R16n_4_val R16n_4_tab) (Nat.le_refl 0)
  · have hd : n / 4294967296 ≠ 0 := by omega
    exact small_nil2 .u8 5 (.inl rfl) (small_of (R := R16g_4 n) eC1_ok hmC (f := 16) (fn := f16) (by kernel_rfl) (by kernel_rfl) FnOrc.nil rfl (R16g_4_ok (by simp [allP, Con.h, hd]; omega)) R16g_4_val R16g_4_tab) (Nat.le_refl 0)
theorem in16_8 {n : Int} (h : 0 ≤ n ∧ n < 4611686018427387904) : Small prog (fun _ => none) 16 [.int .i64 n, .int .i64 8] [] (num16Law n 8) [some ⟨.ints .u8 (numLaw n 8), 0, true, 5⟩] := by
  have hm : 0 ≤ n ∧ n < mostLaw 8 := h
  have e := num_in (n := n) (size := 8) (by decide) hm
  unfold num16Law
  rw [e.1, e.2]
  have eb : beLaw n (Int.toNat 8) = [n / 72057594037927936 % 256, n / 281474976710656 % 256, n / 1099511627776 % 256, n / 4294967296 % 256, n / 16777216 % 256, n / 65536 % 256, n / 256 % 256, n / 1 % 256] := by kernel_rfl
  rw [eb]
  have hd : n / 4611686018427387904 = 0 := by omega
  exact small_of (R := R16_8 n) eC1_ok hmC (f := 16) (fn := f16) (by kernel_rfl) (by kernel_rfl) FnOrc.nil rfl (R16_8_ok (by simp [allP, Con.h, hd]; omega)) R16_8_val R16_8_tab
theorem out16_8 {n : Int} (h : ¬ (0 ≤ n ∧ n < 4611686018427387904)) : Small prog (fun _ => none) 16 [.int .i64 n, .int .i64 8] [] (num16Law n 8) [some ⟨.ints .u8 (numLaw n 8), 0, true, 5⟩] := by
  have hm : ¬ (0 ≤ n ∧ n < mostLaw 8) := h
  have e := num_out (n := n) (size := 8) (by decide) hm
  unfold num16Law
  rw [e.1, e.2]
  by_cases h0 : n < 0
  · exact small_nil2 .u8 5 (.inl rfl) (small_of (R := R16n_8 n) eC1_ok hmC (f := 16) (fn := f16) (by kernel_rfl) (by kernel_rfl) FnOrc.nil rfl (R16n_8_ok (by simp [allP, Con.h]; omega)) R16n_8_val R16n_8_tab) (Nat.le_refl 0)
  · have hd : n / 4611686018427387904 ≠ 0 := by omega
    exact small_nil2 .u8 5 (.inl rfl) (small_of (R := R16g_8 n) eC1_ok hmC (f := 16) (fn := f16) (by kernel_rfl) (by kernel_rfl) FnOrc.nil rfl (R16g_8_ok (by simp [allP, Con.h, hd]; omega)) R16g_8_val R16g_8_tab) (Nat.le_refl 0)
def sm16 : Summary := fun args T => match args, T with
  | [.int .i64 n, .int .i64 size], [] => ⟨[], num16Law n size, [some ⟨.ints .u8 (numLaw n size), 0, true, 5⟩]⟩
  | _, _ => fail
theorem sm16_ok : SmOk prog (fun _ => none) 16 sm16 := by
  intro args T hc
  unfold sm16 at hc ⊢
  split at hc
  · rename_i n size
    by_cases hs : sizedLaw size
    · rcases hs with rfl | rfl | rfl | rfl
      · by_cases h : 0 ≤ n ∧ n < 256
        · exact in16_1 h
        · exact out16_1 h
      · by_cases h : 0 ≤ n ∧ n < 65536
        · exact in16_2 h
        · exact out16_2 h
      · by_cases h : 0 ≤ n ∧ n < 4294967296
        · exact in16_4 h
        · exact out16_4 h
      · by_cases h : 0 ≤ n ∧ n < 4611686018427387904
        · exact in16_8 h
        · exact out16_8 h
    · exact bad16 hs
  · exact absurd hc nofail
def S16 : Summary := callR sm16 []
theorem S16_ok : SumOk prog (fun _ => none) 16 S16 := callR_ok sm16_ok []
/-! ### of the document -/
noncomputable def S41 : Summary := sumI modeO (eC0 []) f41 [] 100 [] []
theorem S41_ok : SumOk prog (fun _ => none) 41 S41 := sumI_ok eC0_ok hmC (fn := f41) (by kernel_rfl) (by kernel_rfl) [] FnOrc.nil 100 [] []
noncomputable def S41x : Summary := sumI modeO (eC0 []) f41 [] 100 [some false, some false, some false, some false] []
theorem S41x_ok : SumOk prog (fun _ => none) 41 S41x := sumI_ok eC0_ok hmC (fn := f41) (by kernel_rfl) (by kernel_rfl) [] FnOrc.nil 100 [some false, some false, some false, some false] []
noncomputable def S42 : Summary := sumI modeO (eC0 []) f42 [] 100 [] []
theorem S42_ok : SumOk prog (fun _ => none) 42 S42 := sumI_ok eC0_ok hmC (fn := f42) (by kernel_rfl) (by kernel_rfl) [] FnOrc.nil 100 [] []
noncomputable def S43 : Summary := sumI modeO (eC0 []) f43 [] 400 [] []
theorem S43_ok : SumOk prog (fun _ => none) 43 S43 := sumI_ok eC0_ok hmC (fn := f43) (by kernel_rfl) (by kernel_rfl) [] FnOrc.nil 400 [] []
noncomputable def eC6 : Env := eC0 [(41, S41), (42, S42), (43, S43)]
theorem eC6_ok : EnvOk eC6 := envOf_ok tysC_ok (SumsOk.cons (fn := f41) S41_ok (by kernel_rfl) (by kernel_rfl) (by kernel_rfl) (SumsOk.cons (fn := f42) S42_ok (by kernel_rfl) (by kernel_rfl) (by kernel_rfl) (SumsOk.cons (fn := f43) S43_ok (by kernel_rfl) (by kernel_rfl) (by kernel_rfl) trivial)))
noncomputable def eC6x : Env := eC0 [(41, S41x), (42, S42), (43, S43)]
theorem eC6x_ok : EnvOk eC6x := envOf_ok tysC_ok (SumsOk.cons (fn := f41) S41x_ok (by kernel_rfl) (by kernel_rfl) (by kernel_rfl) (SumsOk.cons (fn := f42) S42_ok (by kernel_rfl) (by kernel_rfl) (by kernel_rfl) (SumsOk.cons (fn := f43) S43_ok (by kernel_rfl) (by kernel_rfl) (by kernel_rfl) trivial)))
noncomputable def R17x (n size : Int) : Res := runF eC6x f17 [] 400 [.int .i64 n, .int .i64 size] [] []
theorem R17x_ok {n size : Int} (h : allP [Con.p ((size == 1) = false), Con.p ((size == 2) = false), Con.p ((size == 4) = false), Con.p ((size == 8) = false)]) : OkR (R17x n size) := OkR.dem (fl := [false, false, false, false]) (by kernel_rfl) (by kernel_rfl) (by kernel_rfl) h
theorem R17x_val {n size : Int} : (R17x n size).val = AVal.tuple [AVal.nilSlice, AVal.int IntKind.i64 1] := by kernel_rfl
theorem R17x_tab {n size : Int} : (R17x n size).tab = [] := by kernel_rfl
noncomputable def R17_1 (n : Int) : Res := runF eC6 f17 [] 400 [.int .i64 n, .int .i64 1] [] [none, some false, some false]
theorem R17_1_ok {n : Int} (h : allP [Con.p (decide (n < 0) = false), Con.p (decide (256 ≤ n) = false)]) : OkR (R17_1 n) := OkR.dem (fl := [false, true, true, true, true, false, true, true, true, true, true, true, true, true, true, true, true, true]) (by kernel_rfl) (by kernel_rfl) (by kernel_rfl) h
theorem R17_1_val {n : Int} : (R17_1 n).val = AVal.tuple [AVal.slice 1 0 0 0 1 none, AVal.int IntKind.i64 0] := by kernel_rfl
theorem R17_1_tab {n : Int} : (R17_1 n).tab = [some { data := AVal.ints IntKind.u8 [n / 1 % 256], g := 0, own := true, et := 5 }] := by kernel_rfl
noncomputable def R17n_1 (n : Int) : Res := runF eC6 f17 [] 400 [.int .i64 n, .int .i64 1] [] [none, some true]
theorem R17n_1_ok {n : Int} (h : allP [Con.p (decide (n < 0) = true)]) : OkR (R17n_1 n) := OkR.dem (fl := [false]) (by kernel_rfl) (by kernel_rfl) (by kernel_rfl) h
theorem R17n_1_val {n : Int} : (R17n_1 n).val = AVal.tuple [AVal.nilSlice, AVal.int IntKind.i64 11] := by kernel_rfl
theorem R17n_1_tab {n : Int} : (R17n_1 n).tab = [] := by kernel_rfl
noncomputable def R17g_1 (n : Int) : Res := runF eC6 f17 [] 400 [.int .i64 n, .int .i64 1] [] [none, some false, some true]
theorem R17g_1_ok {n : Int} (h : allP [Con.p (decide (n < 0) = false), Con.p (decide (256 ≤ n) = true)]) : OkR (R17g_1 n) := OkR.dem (fl := [false, true, true, true, true, false]) (by kernel_rfl) (by kernel_rfl) (by kernel_rfl) h
theorem R17g_1_val {n : Int} : (R17g_1 n).val = AVal.tuple [AVal.nilSlice, AVal.int IntKind.i64 11] := by kernel_rfl
theorem R17g_1_tab {n : Int} : (R17g_1 n).tab = [] := by kernel_rfl
noncomputable def R17_2 (n : Int) : Res := runF eC6 f17 [] 400 [.int .i64 n, .int .i64 2] [] [none, some false, some false]
theorem R17_2_ok {n : Int} (h : allP [Con.p (decide (n < 0) = false), Con.p (decide (65536 ≤ n) = false)]) : OkR (R17_2 n) := OkR.dem (fl := [false, true, true, true, true, false, true, true, true, true, true, true, true, true, true, true, true, true, true,
    true, true, true, true, true, true, true, true, true, true, true, true]) (by kernel_rfl) (by kernel_rfl) (by kernel_rfl) h
theorem R17_2_val {n : Int} : (R17_2 n).val = AVal.tuple [AVal.slice 1 0 1 0 2 none, AVal.int IntKind.i64 0] := by kernel_rfl
theorem R17_2_tab {n : Int} : (R17_2 n).tab = [some { data := AVal.ints IntKind.u8 [n / 256 % 256, n / 1 % 256], g := 1, own := true, et := 5 }] := by kernel_rfl
noncomputable def R17n_2 (n : Int) : Res := runF eC6 f17 [] 400 [.int .i64 n, .int .i64 2] [] [none, some true]
theorem R17n_2_ok {n : Int} (h : allP [Con.p (decide (n < 0) = true)]) : OkR (R17n_2 n) := OkR.dem (fl := [false]) (by kernel_rfl) (by kernel_rfl) (by kernel_rfl) h
theorem R17n_2_val {n : Int} : (R17n_2 n).val = AVal.tuple [AVal.nilSlice, AVal.int IntKind.i64 11] := by kernel_rfl
theorem R17n_2_tab {n : Int} : (R17n_2 n).tab = [] := by kernel_rfl
noncomputable def R17g_2 (n : Int) : Res := runF eC6 f17 [] 400 [.int .i64 n, .int .i64 2] [] [none, some false, some true]
theorem R17g_2_ok {n : Int} (h : allP [Con.p (decide (n < 0) = false), Con.p (decide (65536 ≤ n) = true)]) : OkR (R17g_2 n) := OkR.dem (fl := [false, true, true, true, true, false]) (by kernel_rfl) (by kernel_rfl) (by kernel_rfl) h
theorem R17g_2_val {n : Int} : (R17g_2 n).val = AVal.tuple [AVal.nilSlice, AVal.int IntKind.i64 11] := by kernel_rfl
theorem R17g_2_tab {n : Int} : (R17g_2 n).tab = [] := by kernel_rfl
noncomputable def R17_4 (n : Int) : Res := runF eC6 f17 [] 400 [.int .i64 n, .int .i64 4] [] [none, some false, some false]
theorem R17_4_ok {n : Int} (h : allP [Con.p (decide (n < 0) = false), Con.p (decide (4294967296 ≤ n) = false)]) : OkR (R17_4 n) := OkR.dem (fl := [false, true, true, true, true, false, true, true, true, true, true, true, true, true, true, true, true, true, true,
    true, true, true, true, true, true, true, true, true, true, true, true, true, true, true, true, true, true, true,
    true, true, true, true, true, true, true, true, true, true, true, true, true, true, true, true, true, true, true]) (by kernel_rfl) (by kernel_rfl) (by kernel_rfl) h
theorem R17_4_val {n : Int} : (R17_4 n).val = AVal.tuple [AVal.slice 1 0 3 0 4 none, AVal.int IntKind.i64 0] := by kernel_rfl
theorem R17_4_tab {n : Int} : (R17_4 n).tab = [some
      { data := AVal.ints IntKind.u8 [n / 16777216 % 256, n / 65536 % 256, n / 256 % 256, n / 1 % 256], g := 3,
        own := true, et := 5 }] := by kernel_rfl
noncomputable def R17n_4 (n : Int) : Res := runF eC6 f17 [] 400 [.int .i64 n, .int .i64 4] [] [none, some true]
theorem R17n_4_ok {n : Int} (h : allP [Con.p (decide (n < 0) = true)]) : OkR (R17n_4 n) := OkR.dem (fl := [false]) (by kernel_rfl) (by kernel_rfl) (by kernel_rfl) h
theorem R17n_4_val {n : Int} : (R17n_4 n).val = AVal.tuple [AVal.nilSlice, AVal.int IntKind.i64 11] := by kernel_rfl
theorem R17n_4_tab {n : Int} : (R17n_4 n).tab = [] := by kernel_rfl
noncomputable def R17g_4 (n : Int) : Res := runF eC6 f17 [] 400 [.int .i64 n, .int .i64 4] [] [none, some false, some true]
theorem R17g_4_ok {n : Int} (h : allP [Con.p (decide (n < 0) = false), Con.p (decide (4294967296 ≤ n) = true)]) : OkR (R17g_4 n) := OkR.dem (fl := [false, true, true, true, true, false]) (by kernel_rfl) (by kernel_rfl) (by kernel_rfl) h
theorem R17g_4_val {n : Int} : (R17g_4 n).val = AVal.tuple [AVal.nilSlice, AVal.int IntKind.i64 11] := by kernel_rfl
theorem R17g_4_tab {n : Int} : (R17g_4 n).tab = [] := by kernel_rfl
noncomputable def R17_8 (n : Int) : Res := runF eC6 f17 [] 400 [.int .i64 n, .int .i64 8] [] [none, some false, some false]
theorem R17_8_ok {n : Int} (h : allP [Con.p (decide (n < 0) = false), Con.p (decide (4611686018427387904 ≤ n) = false)]) : OkR (R17_8 n) := OkR.dem (fl := [false, false, true, true, true, true, true, true, true, true, true, true, true, true, true, true, true, true, true,
    true, true, true, true, true, true, true, true, true, true, true, true, true, true, true, true, true, true, true,
    true, true, true, true, true, true, true, true, true, true, true, true, true, true, true, true, true, true, true,
    true, true, true, true, true, true, true, true, true, true, true, true, true, true, true, true, true, true, true,
    true, true, true, true, true, true, true, true, true, true, true, true, true, true, true, true, true, true, true,
    true, true, true, true, true, true, true, true, true, true]) (by kernel_rfl) (by kernel_rfl) (by kernel_rfl) h
theorem R17_8_val {n : Int} : (R17_8 n).val = AVal.tuple [AVal.slice 1 0 7 0 8 none, AVal.int IntKind.i64 0] := by kernel_rfl
theorem R17_8_tab {n : Int} : (R17_8 n).tab = [some
      {
        data :=
          AVal.ints IntKind.u8
            [n / 72057594037927936 % 256, n / 281474976710656 % 256, n / 1099511627776 % 256, n / 4294967296 % 256,
              n / 16777216 % 256, n / 65536 % 256, n / 256 % 256, n / 1 % 256],
        g := 7, own := true, et := 5 }] := by kernel_rfl
noncomputable def R17n_8 (n : Int) : Res := runF eC6 f17 [] 400 [.int .i64 n, .int .i64 8] [] [none, some true]
theorem R17n_8_ok {n : Int} (h : allP [Con.p (decide (n < 0) = true)]) : OkR (R17n_8 n) := OkR.dem (fl := [false]) (by kernel_rfl) (by kernel_rfl) (by kernel_rfl) h
theorem R17n_8_val {n : Int} : (R17n_8 n).val = AVal.tuple [AVal.nilSlice, AVal.int IntKind.i64 11] := by kernel_rfl
theorem R17n_8_tab {n : Int} : (R17n_8 n).tab = [] := by kernel_rfl
noncomputable def R17g_8 (n : Int) : Res := runF eC6 f17 [] 400 [.int .i64 n, .int .i64 8] [] [none, some false, some true]
theorem R17g_8_ok {n : Int} (h : allP [Con.p (decide (n < 0) = false), Con.p (decide (4611686018427387904 ≤ n) = true)]) : OkR (R17g_8 n) := OkR.dem (fl := [false, false]) (by kernel_rfl) (by kernel_rfl) (by kernel_rfl) h
theorem R17g_8_val {n : Int} : (R17g_8 n).val = AVal.tuple [AVal.nilSlice, AVal.int IntKind.i64 11] := by kernel_rfl
theorem R17g_8_tab {n : Int} : (R17g_8 n).tab = [] := by kernel_rfl
end Go.Abs
