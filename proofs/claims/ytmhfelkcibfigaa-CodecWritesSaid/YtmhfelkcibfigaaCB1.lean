/- What functions of the given program come to, by the abstract machine: one text of a proof. -/
import Derived.Test.YtmhfelkcibfigaaCA3
set_option linter.unusedVariables false
set_option linter.unusedSimpArgs false
set_option maxRecDepth 8000
namespace Go.Abs
open Go.Proofs.Try
/-! ### numbers as bytes: of the program -/
noncomputable def S39x : Summary := sumI modeO (eC0 []) f39 [] 100 [some false, some false, some false, some false] []
theorem S39x_ok : SumOk prog (fun _ => none) 39 S39x := sumI_ok eC0_ok hmC (fn := f39) (by kernel_rfl) (by kernel_rfl) [] FnOrc.nil 100 [some false, some false, some false, some false] []
noncomputable def eC1x : Env := eC0 [(39, S39x), (40, S40)]
theorem eC1x_ok : EnvOk eC1x := envOf_ok tysC_ok (SumsOk.cons (fn := f39) S39x_ok (by kernel_rfl) (by kernel_rfl) (by kernel_rfl) (SumsOk.cons (fn := f40) S40_ok (by kernel_rfl) (by kernel_rfl) (by kernel_rfl) trivial))
noncomputable def R16x (n size : Int) : Res := runF eC1x f16 [] 400 [.int .i64 n, .int .i64 size] [] []
theorem R16x_ok {n size : Int} (h : allP [Con.p ((size == 1) = false), Con.p ((size == 2) = false), Con.p ((size == 4) = false), Con.p ((size == 8) = false)]) : OkR (R16x n size) := OkR.dem (fl := [false, false, false, false]) (by kernel_rfl) (by kernel_rfl) (by kernel_rfl) h
theorem R16x_val {n size : Int} : (R16x n size).val = AVal.tuple [AVal.nilSlice, AVal.int IntKind.i64 1] := by kernel_rfl
theorem R16x_tab {n size : Int} : (R16x n size).tab = [] := by kernel_rfl
noncomputable def R16_1 (n : Int) : Res := runF eC1 f16 [] 400 [.int .i64 n, .int .i64 1] [] [none, some false, some false]
theorem R16_1_ok {n : Int} (h : allP [Con.p (decide (n < 0) = false), Con.p ((n / 256 != 0) = false)]) : OkR (R16_1 n) := OkR.dem (fl := [true, false, true, false, true, true, true, true, true, true, true, true, true, true, true, true, true, true, true,
    true]) (by kernel_rfl) (by kernel_rfl) (by kernel_rfl) h
theorem R16_1_val {n : Int} : (R16_1 n).val = AVal.tuple [AVal.slice 1 0 0 0 1 (some 1), AVal.int IntKind.i64 0] := by kernel_rfl
theorem R16_1_tab {n : Int} : (R16_1 n).tab = [some { data := AVal.ints IntKind.u8 [n / 1 % 256], g := 0, own := true, et := 5 }] := by kernel_rfl
noncomputable def R16_2 (n : Int) : Res := runF eC1 f16 [] 400 [.int .i64 n, .int .i64 2] [] [none, some false, some false]
theorem R16_2_ok {n : Int} (h : allP [Con.p (decide (n < 0) = false), Con.p ((n / 65536 != 0) = false)]) : OkR (R16_2 n) := OkR.dem (fl := [true, false, true, false, true, true, true, true, true, true, true, true, true, true, true, true, true, true, true,
    true, true, true, true, true, true, true, true, true, true, true, true, true]) (by kernel_rfl) (by kernel_rfl) (by kernel_rfl) h
theorem R16_2_val {n : Int} : (R16_2 n).val = AVal.tuple [AVal.slice 1 0 0 0 2 (some 2), AVal.int IntKind.i64 0] := by kernel_rfl
theorem R16_2_tab {n : Int} : (R16_2 n).tab = [some { data := AVal.ints IntKind.u8 [n / 256 % 256, n / 1 % 256], g := 0, own := true, et := 5 }] := by kernel_rfl
noncomputable def R16_4 (n : Int) : Res := runF eC1 f16 [] 400 [.int .i64 n, .int .i64 4] [] [none, some false, some false]
theorem R16_4_ok {n : Int} (h : allP [Con.p (decide (n < 0) = false), Con.p ((n / 4294967296 != 0) = false)]) : OkR (R16_4 n) := OkR.dem (fl := [true, false, true, false, true, true, true, true, true, true, true, true, true, true, true, true, true, true, true,
    true, true, true, true, true, true, true, true, true, true, true, true, true, true, true, true, true, true, true,
    true, true, true, true, true, true, true, true, true, true, true, true, true, true, true, true, true, true]) (by kernel_rfl) (by kernel_rfl) (by kernel_rfl) h
theorem R16_4_val {n : Int} : (R16_4 n).val = AVal.tuple [AVal.slice 1 0 0 0 4 (some 4), AVal.int IntKind.i64 0] := by kernel_rfl
theorem R16_4_tab {n : Int} : (R16_4 n).tab = [some
      { data := AVal.ints IntKind.u8 [n / 16777216 % 256, n / 65536 % 256, n / 256 % 256, n / 1 % 256], g := 0,
        own := true, et := 5 }] := by kernel_rfl
noncomputable def R16_8 (n : Int) : Res := runF eC1 f16 [] 400 [.int .i64 n, .int .i64 8] [] [none, some false, some false]
theorem R16_8_ok {n : Int} (h : allP [Con.p (decide (n < 0) = false), Con.p ((n / 4611686018427387904 != 0) = false)]) : OkR (R16_8 n) := OkR.dem (fl := [false, true, false, true, true, true, true, true, true, true, true, true, true, true, true, true, true, true, true,
    true, true, true, true, true, true, true, true, true, true, true, true, true, true, true, true, true, true, true,
    true, true, true, true, true, true, true, true, true, true, true, true, true, true, true, true, true, true, true,
    true, true, true, true, true, true, true, true, true, true, true, true, true, true, true, true, true, true, true,
    true, true, true, true, true, true, true, true, true, true, true, true, true, true, true, true, true, true, true,
    true, true, true, true, true, true, true, true]) (by kernel_rfl) (by kernel_rfl) (by kernel_rfl) h
theorem R16_8_val {n : Int} : (R16_8 n).val = AVal.tuple [AVal.slice 1 0 0 0 8 (some 8), AVal.int IntKind.i64 0] := by kernel_rfl
theorem R16_8_tab {n : Int} : (R16_8 n).tab = [some
      {
        data :=
          AVal.ints IntKind.u8
            [n / 72057594037927936 % 256, n / 281474976710656 % 256, n / 1099511627776 % 256, n / 4294967296 % 256,
              n / 16777216 % 256, n / 65536 % 256, n / 256 % 256, n / 1 % 256],
        g := 0, own := true, et := 5 }] := by kernel_rfl
noncomputable def R16n_1 (n : Int) : Res := runF eC1 f16 [] 400 [.int .i64 n, .int .i64 1] [] [none, some true]
theorem R16n_1_ok {n : Int} (h : allP [Con.p (decide (n < 0) = true)]) : OkR (R16n_1 n) := OkR.dem (fl := [true, false]) (by kernel_rfl) (by kernel_rfl) (by kernel_rfl) h
theorem R16n_1_val {n : Int} : (R16n_1 n).val = AVal.tuple [AVal.nilSlice, AVal.int IntKind.i64 11] := by kernel_rfl
theorem R16n_1_tab {n : Int} : (R16n_1 n).tab = [] := by kernel_rfl
noncomputable def R16n_2 (n : Int) : Res := runF eC1 f16 [] 400 [.int .i64 n, .int .i64 2] [] [none, some true]
theorem R16n_2_ok {n : Int} (h : allP [Con.p (decide (n < 0) = true)]) : OkR (R16n_2 n) := OkR.dem (fl := [true, false]) (by kernel_rfl) (by kernel_rfl) (by kernel_rfl) h
theorem R16n_2_val {n : Int} : (R16n_2 n).val = AVal.tuple [AVal.nilSlice, AVal.int IntKind.i64 11] := by kernel_rfl
theorem R16n_2_tab {n : Int} : (R16n_2 n).tab = [] := by kernel_rfl
noncomputable def R16n_4 (n : Int) : Res := runF eC1 f16 [] 400 [.int .i64 n, .int .i64 4] [] [none, some true]
theorem R16n_4_ok {n : Int} (h : allP [Con.p (decide (n < 0) = true)]) : OkR (R16n_4 n) := OkR.dem (fl := [true, false]) (by kernel_rfl) (by kernel_rfl) (by kernel_rfl) h
theorem R16n_4_val {n : Int} : (R16n_4 n).val = AVal.tuple [AVal.nilSlice, AVal.int IntKind.i64 11] := by kernel_rfl
theorem R16n_4_tab {n : Int} : (R16n_4 n).tab = [] := by kernel_rfl
noncomputable def R16n_8 (n : Int) : Res := runF eC1 f16 [] 400 [.int .i64 n, .int .i64 8] [] [none, some true]
theorem R16n_8_ok {n : Int} (h : allP [Con.p (decide (n < 0) = true)]) : OkR (R16n_8 n) := OkR.dem (fl := [false]) (by kernel_rfl) (by kernel_rfl) (by kernel_rfl) h
theorem R16n_8_val {n : Int} : (R16n_8 n).val = AVal.tuple [AVal.nilSlice, AVal.int IntKind.i64 11] := by kernel_rfl
theorem R16n_8_tab {n : Int} : (R16n_8 n).tab = [] := by kernel_rfl
noncomputable def R16g_1 (n : Int) : Res := runF eC1 f16 [] 400 [.int .i64 n, .int .i64 1] [] [none, some false, some true]
theorem R16g_1_ok {n : Int} (h : allP [Con.p (decide (n < 0) = false), Con.p ((n / 256 != 0) = true)]) : OkR (R16g_1 n) := OkR.dem (fl := [true, false, true, false]) (by kernel_rfl) (by kernel_rfl) (by kernel_rfl) h
theorem R16g_1_val {n : Int} : (R16g_1 n).val = AVal.tuple [AVal.nilSlice, AVal.int IntKind.i64 11] := by kernel_rfl
theorem R16g_1_tab {n : Int} : (R16g_1 n).tab = [] := by kernel_rfl
noncomputable def R16g_2 (n : Int) : Res := runF eC1 f16 [] 400 [.int .i64 n, .int .i64 2] [] [none, some false, some true]
theorem R16g_2_ok {n : Int} (h : allP [Con.p (decide (n < 0) = false), Con.p ((n / 65536 != 0) = true)]) : OkR (R16g_2 n) := OkR.dem (fl := [true, false, true, false]) (by kernel_rfl) (by kernel_rfl) (by kernel_rfl) h
theorem R16g_2_val {n : Int} : (R16g_2 n).val = AVal.tuple [AVal.nilSlice, AVal.int IntKind.i64 11] := by kernel_rfl
theorem R16g_2_tab {n : Int} : (R16g_2 n).tab = [] := by kernel_rfl
noncomputable def R16g_4 (n : Int) : Res := runF eC1 f16 [] 400 [.int .i64 n, .int .i64 4] [] [none, some false, some true]
theorem R16g_4_ok {n : Int} (h : allP [Con.p (decide (n < 0) = false), Con.p ((n / 4294967296 != 0) = true)]) : OkR (R16g_4 n) := OkR.dem (fl := [true, false, true, false]) (by kernel_rfl) (by kernel_rfl) (by kernel_rfl) h
theorem R16g_4_val {n : Int} : (R16g_4 n).val = AVal.tuple [AVal.nilSlice, AVal.int IntKind.i64 11] := by kernel_rfl
theorem R16g_4_tab {n : Int} : (R16g_4 n).tab = [] := by kernel_rfl
noncomputable def R16g_8 (n : Int) : Res := runF eC1 f16 [] 400 [.int .i64 n, .int .i64 8] [] [none, some false, some true]
theorem R16g_8_ok {n : Int} (h : allP [Con.p (decide (n < 0) = false), Con.p ((n / 4611686018427387904 != 0) = true)]) : OkR (R16g_8 n) := OkR.dem (fl := [false, true, false]) (by kernel_rfl) (by kernel_rfl) (by kernel_rfl) h
theorem R16g_8_val {n : Int} : (R16g_8 n).val = AVal.tuple [AVal.nilSlice, AVal.int IntKind.i64 11] := by kernel_rfl
theorem R16g_8_tab {n : Int} : (R16g_8 n).tab = [] := by kernel_rfl
end Go.Abs
