/- What functions of the given program come to, by the abstract machine: one text of a proof. -/
import Derived.Test.YtmhfelkcibfigaaCA1
set_option linter.unusedVariables false
set_option linter.unusedSimpArgs false
set_option maxRecDepth 8000
namespace Go.Abs
open Go.Proofs.Try
noncomputable def eC2 : Env := eC0 [(12, S12), (35, S35), (33, S33), (44, S44), (18, S18), (27, S27), (31, S31)]
theorem eC2_ok : EnvOk eC2 := envOf_ok tysC_ok (SumsOk.cons (fn := f12) S12_ok (by kernel_rfl) (by kernel_rfl) (by kernel_rfl) (SumsOk.cons (fn := f35) S35_ok (by kernel_rfl) (by kernel_rfl) (by kernel_rfl) (SumsOk.cons (fn := f33) S33_ok (by kernel_rfl) (by kernel_rfl) (by kernel_rfl)
  (SumsOk.cons (fn := f44) S44_ok (by kernel_rfl) (by kernel_rfl) (by kernel_rfl) (SumsOk.cons (fn := f18) S18_ok (by kernel_rfl) (by kernel_rfl) (by kernel_rfl) (SumsOk.cons (fn := f27) S27_ok (by kernel_rfl) (by kernel_rfl) (by kernel_rfl) (SumsOk.cons (fn := f31) S31_ok (by kernel_rfl) (by kernel_rfl) (by kernel_rfl) trivial)))))))
noncomputable def S10 : Summary := sumI modeO eC2 f10 [] 400 [] []
theorem S10_ok : SumOk prog (fun _ => none) 10 S10 := sumI_ok eC2_ok hmC (fn := f10) (by kernel_rfl) (by kernel_rfl) [] FnOrc.nil 400 [] []
noncomputable def S29 : Summary := sumI modeO eC2 f29 [] 400 [] [true, true]
theorem S29_ok : SumOk prog (fun _ => none) 29 S29 := sumI_ok eC2_ok hmC (fn := f29) (by kernel_rfl) (by kernel_rfl) [] FnOrc.nil 400 [] [true, true]
noncomputable def eC3 : Env := eC0 [(10, S10)]
theorem eC3_ok : EnvOk eC3 := envOf_ok tysC_ok (SumsOk.cons (fn := f10) S10_ok (by kernel_rfl) (by kernel_rfl) (by kernel_rfl) trivial)
noncomputable def S20 : Summary := sumI modeO eC3 f20 [] 400 [] []
theorem S20_ok : SumOk prog (fun _ => none) 20 S20 := sumI_ok eC3_ok hmC (fn := f20) (by kernel_rfl) (by kernel_rfl) [] FnOrc.nil 400 [] []
noncomputable def eC4 : Env := eC0 [(12, S12), (35, S35), (33, S33), (20, S20), (23, S23), (29, S29)]
theorem eC4_ok : EnvOk eC4 := envOf_ok tysC_ok (SumsOk.cons (fn := f12) S12_ok (by kernel_rfl) (by kernel_rfl) (by kernel_rfl) (SumsOk.cons (fn := f35) S35_ok (by kernel_rfl) (by kernel_rfl) (by kernel_rfl) (SumsOk.cons (fn := f33) S33_ok (by kernel_rfl) (by kernel_rfl) (by kernel_rfl)
  (SumsOk.cons (fn := f20) S20_ok (by kernel_rfl) (by kernel_rfl) (by kernel_rfl) (SumsOk.cons (fn := f23) S23_ok (by kernel_rfl) (by kernel_rfl) (by kernel_rfl) (SumsOk.cons (fn := f29) S29_ok (by kernel_rfl) (by kernel_rfl) (by kernel_rfl) trivial))))))
noncomputable def R13  : Res := runF eC4 f13 [] 400 [] [] []
theorem R13_ok  (h : allP []) : OkR (R13 ) := OkR.dem (fl := [true, true, true, true, true, true, true, true, true, true, true, true, true, true, true, true, true, true, true,
    true, true, true, true, true, true, true, true, true, true, true, true, true, true, true, true, true, true, true,
    true, true, true, true, true, true, true, true, true, true, true, true, true, true, true, true, true, true, true,
    true, true, true, true, true, true, true, true, true, true, true, true, true, true, true, true, true, true, true,
    true, true, true, true, true, true, true, true, true, true, true, true, true, true, true, true, true, true, true,
    true, true, true, true, true, true, true, true, true, true, true, true, true, true, true, true, true, true, true,
    true, true, true, true, true, true, true, true, true, true, true, true, true, true, true, false, true, true, true,
    true, true, true, true, true, true, true, true, true, true, true, true, true, true, true, true, true, true, true,
    true, true, true, true, true, true, true, true, true, true, true, false, false, true, true, false, true, true,
    false, true, true, true, true, false, true, true, false, true, true, true, true, true, true, true, true, true, true,
    true, true, true, true, true, true, true, true, true, true, true, true, true, true, true, true, true, true, true,
    true, true, true, true, true, true, true, true, true, true, true, true, true, true, true, true, true, true, true,
    true]) (by kernel_rfl) (by kernel_rfl) (by kernel_rfl) h
theorem R13_val  : (R13 ).val = AVal.bool true := by kernel_rfl
theorem R13_tab  : (R13 ).tab = [some { data := AVal.ints IntKind.u8 [97, 98], g := 0, own := false, et := 5 }, none,
    some { data := AVal.ints IntKind.u8 [2, 97, 98], g := 1, own := true, et := 5 },
    some { data := AVal.ints IntKind.u8 [64, 5], g := 0, own := true, et := 5 },
    some
      { data := AVal.agg [AVal.slice 1 5 1 0 2 none, AVal.int IntKind.i64 21, AVal.bool true], g := 0, own := true,
        et := 60 },
    some { data := AVal.ints IntKind.u8 [64, 5], g := 1, own := true, et := 5 }] := by kernel_rfl
end Go.Abs
