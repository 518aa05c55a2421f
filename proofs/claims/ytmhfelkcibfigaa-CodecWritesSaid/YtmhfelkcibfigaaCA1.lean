/- What functions of the given program come to, by the abstract machine: one text of a proof. -/
import Derived.Test.YtmhfelkcibfigaaTyC
set_option linter.unusedVariables false
set_option linter.unusedSimpArgs false
set_option maxRecDepth 8000
namespace Go.Abs
open Go.Proofs.Try
/-! ### codec: what needs no contract of its own -/
noncomputable def S12 : Summary := sumI modeO (eC0 []) f12 [] 100 [] []
theorem S12_ok : SumOk prog (fun _ => none) 12 S12 := sumI_ok eC0_ok hmC (fn := f12) (by kernel_rfl) (by kernel_rfl) [] FnOrc.nil 100 [] []
noncomputable def S35 : Summary := sumI modeO (eC0 []) f35 [] 100 [] []
theorem S35_ok : SumOk prog (fun _ => none) 35 S35 := sumI_ok eC0_ok hmC (fn := f35) (by kernel_rfl) (by kernel_rfl) [] FnOrc.nil 100 [] []
noncomputable def S33 : Summary := sumI modeO (eC0 []) f33 [] 100 [] []
theorem S33_ok : SumOk prog (fun _ => none) 33 S33 := sumI_ok eC0_ok hmC (fn := f33) (by kernel_rfl) (by kernel_rfl) [] FnOrc.nil 100 [] []
noncomputable def S44 : Summary := sumI modeO (eC0 []) f44 [] 100 [] []
theorem S44_ok : SumOk prog (fun _ => none) 44 S44 := sumI_ok eC0_ok hmC (fn := f44) (by kernel_rfl) (by kernel_rfl) [] FnOrc.nil 100 [] []
noncomputable def S39 : Summary := sumI modeO (eC0 []) f39 [] 100 [] []
theorem S39_ok : SumOk prog (fun _ => none) 39 S39 := sumI_ok eC0_ok hmC (fn := f39) (by kernel_rfl) (by kernel_rfl) [] FnOrc.nil 100 [] []
noncomputable def S40 : Summary := sumI modeO (eC0 []) f40 [] 400 [] []
theorem S40_ok : SumOk prog (fun _ => none) 40 S40 := sumI_ok eC0_ok hmC (fn := f40) (by kernel_rfl) (by kernel_rfl) [] FnOrc.nil 400 [] []
noncomputable def S45 : Summary := sumI modeO (eC0 []) f45 [] 400 [] []
theorem S45_ok : SumOk prog (fun _ => none) 45 S45 := sumI_ok eC0_ok hmC (fn := f45) (by kernel_rfl) (by kernel_rfl) [] FnOrc.nil 400 [] []
noncomputable def eC1 : Env := eC0 [(12, S12), (35, S35), (33, S33), (44, S44), (39, S39), (40, S40), (45, S45)]
theorem eC1_ok : EnvOk eC1 := envOf_ok tysC_ok (SumsOk.cons (fn := f12) S12_ok (by kernel_rfl) (by kernel_rfl) (by kernel_rfl) (SumsOk.cons (fn := f35) S35_ok (by kernel_rfl) (by kernel_rfl) (by kernel_rfl) (SumsOk.cons (fn := f33) S33_ok (by kernel_rfl) (by kernel_rfl) (by kernel_rfl)
  (SumsOk.cons (fn := f44) S44_ok (by kernel_rfl) (by kernel_rfl) (by kernel_rfl) (SumsOk.cons (fn := f39) S39_ok (by kernel_rfl) (by kernel_rfl) (by kernel_rfl) (SumsOk.cons (fn := f40) S40_ok (by kernel_rfl) (by kernel_rfl) (by kernel_rfl) (SumsOk.cons (fn := f45) S45_ok (by kernel_rfl) (by kernel_rfl) (by kernel_rfl) trivial)))))))
/-! ### no reader, and one that nobody made: closed -/
noncomputable def S25 : Summary := sumI modeO eC1 f25 [] 400 [] [true, true]
theorem S25_ok : SumOk prog (fun _ => none) 25 S25 := sumI_ok eC1_ok hmC (fn := f25) (by kernel_rfl) (by kernel_rfl) [] FnOrc.nil 400 [] [true, true]
noncomputable def S27 : Summary := sumI modeO eC1 f27 [] 400 [] [true, true]
theorem S27_ok : SumOk prog (fun _ => none) 27 S27 := sumI_ok eC1_ok hmC (fn := f27) (by kernel_rfl) (by kernel_rfl) [] FnOrc.nil 400 [] [true, true]
noncomputable def S31 : Summary := sumI modeO eC1 f31 [] 400 [] [true, true]
theorem S31_ok : SumOk prog (fun _ => none) 31 S31 := sumI_ok eC1_ok hmC (fn := f31) (by kernel_rfl) (by kernel_rfl) [] FnOrc.nil 400 [] [true, true]
noncomputable def S36 : Summary := sumI modeO eC1 f36 [] 400 [] []
theorem S36_ok : SumOk prog (fun _ => none) 36 S36 := sumI_ok eC1_ok hmC (fn := f36) (by kernel_rfl) (by kernel_rfl) [] FnOrc.nil 400 [] []
noncomputable def S23 : Summary := sumI modeO eC1 f23 [] 400 [] []
theorem S23_ok : SumOk prog (fun _ => none) 23 S23 := sumI_ok eC1_ok hmC (fn := f23) (by kernel_rfl) (by kernel_rfl) [] FnOrc.nil 400 [] []
noncomputable def S18 : Summary := sumI modeO eC1 f18 [] 400 [] []
theorem S18_ok : SumOk prog (fun _ => none) 18 S18 := sumI_ok eC1_ok hmC (fn := f18) (by kernel_rfl) (by kernel_rfl) [] FnOrc.nil 400 [] []
end Go.Abs
