/- What functions of the given program come to, by the abstract machine: texts of a proof. -/
import Derived.Test.YtmfacmccilipfaaP1
import Derived.Test.YtmfacmccilipfaaAbs2
set_option linter.unusedVariables false
set_option linter.unusedSimpArgs false
set_option maxRecDepth 100000
set_option maxHeartbeats 4000000
namespace Go.Abs
open Go.Proofs Go.Proofs.Try
/-! ### any bytes, as a package: the functions -/
noncomputable def eG1p : Env := eN0 [(27, nS27), (75, S36r), (76, nS76)]
theorem eG1p_ok : EnvOk eG1p := envOf_ok tysN_ok (SumsOk.cons (fn := f27) nS27_ok (by kernel_rfl) (by kernel_rfl) (by kernel_rfl) (SumsOk.cons (fn := f75) S36r_ok (by kernel_rfl) (by kernel_rfl) (by kernel_rfl) (SumsOk.cons (fn := f76) nS76_ok (by kernel_rfl) (by kernel_rfl) (by kernel_rfl) trivial)))
noncomputable def nS62a : Summary := sumI modeO eG1p f62 [] 400 [some true] [false, false, false, false, false, false, false, true]
theorem nS62a_ok : SumOk prog (fun _ => none) 62 nS62a := sumI_ok eG1p_ok hmN (fn := f62) (by kernel_rfl) (by kernel_rfl) [] FnOrc.nil 400 [some true] [false, false, false, false, false, false, false, true]
noncomputable def eG4a : Env := eN0 [(27, nS27), (42, S23r), (44, nS44), (52, S29r), (54, S25r), (62, nS62a)]
theorem eG4a_ok : EnvOk eG4a := envOf_ok tysN_ok (SumsOk.cons (fn := f27) nS27_ok (by kernel_rfl) (by kernel_rfl) (by kernel_rfl) (SumsOk.cons (fn := f42) S23r_ok (by kernel_rfl) (by kernel_rfl) (by kernel_rfl) (SumsOk.cons (fn := f44) nS44_ok (by kernel_rfl) (by kernel_rfl) (by kernel_rfl) (SumsOk.cons (fn := f52) S29r_ok (by kernel_rfl) (by kernel_rfl) (by kernel_rfl) (SumsOk.cons (fn := f54) S25r_ok (by kernel_rfl) (by kernel_rfl) (by kernel_rfl) (SumsOk.cons (fn := f62) nS62a_ok (by kernel_rfl) (by kernel_rfl) (by kernel_rfl) trivial))))))
noncomputable def nR29a (zs : List Int) (g : Nat) (off : Nat) (n : Nat) (cp : Option Nat) (ow : Bool) : Res := resG 1 [0] (runF eG4a f29 [] 400 [.slice 1 0 g off n cp] [some ⟨.ints .u8 zs, g, ow, 5⟩] [])
theorem nR29a_ok {zs : List Int} {g : Nat} {off : Nat} {n : Nat} {cp : Option Nat} {ow : Bool} (h : allP [.eqN g g, .leN (off + n) zs.length, .leN n 140737488355000, .eqN n ((subLaw zs off n).length - 0), .leN 0 (subLaw zs off n).length, .p (ByLaw (subLaw zs off n)), .eqN ((subLaw zs off n).length - rnOLaw (subLaw zs off n) 0 0 4) ((subLaw zs off n).length - rnOLaw (subLaw zs off n) 0 0 4), .leN
 (rnOLaw (subLaw zs off n) 0 0 4) (subLaw zs off n).length, .p (ByLaw (subLaw zs off n)), .leN (subLaw zs off n).length 140737488355000, .eqN ((subLaw zs off n).length - rvOLaw (subLaw zs off n) (rnOLaw (subLaw zs off n) 0 0 4) (rnELaw (subLaw zs off n) 0 0 4)) ((subLaw zs off n).length - rvOLaw (subLaw zs off n) (rnOLaw (subLaw zs off n) 0 0 4) (rnELaw (subLaw zs off n) 0 0 4)), .leN (rvOLaw
 (subLaw zs off n) (rnOLaw (subLaw zs off n) 0 0 4) (rnELaw (subLaw zs off n) 0 0 4)) (subLaw zs off n).length, .p (ByLaw (subLaw zs off n)), .leN (subLaw zs off n).length 140737488355000, .eqN ((subLaw zs off n).length - lfOLaw (subLaw zs off n) (rvOLaw (subLaw zs off n) (rnOLaw (subLaw zs off n) 0 0 4) (rnELaw (subLaw zs off n) 0 0 4)) (rvELaw (subLaw zs off n) (rnOLaw (subLaw zs off n) 0 0 4)
 (rnELaw (subLaw zs off n) 0 0 4))) ((subLaw zs off n).length - lfOLaw (subLaw zs off n) (rvOLaw (subLaw zs off n) (rnOLaw (subLaw zs off n) 0 0 4) (rnELaw (subLaw zs off n) 0 0 4)) (rvELaw (subLaw zs off n) (rnOLaw (subLaw zs off n) 0 0 4) (rnELaw (subLaw zs off n) 0 0 4))), .leN (lfOLaw (subLaw zs off n) (rvOLaw (subLaw zs off n) (rnOLaw (subLaw zs off n) 0 0 4) (rnELaw (subLaw zs off n) 0 0 4))
 (rvELaw (subLaw zs off n) (rnOLaw (subLaw zs off n) 0 0 4) (rnELaw (subLaw zs off n) 0 0 4))) (subLaw zs off n).length, .p (ByLaw (subLaw zs off n)), .leN (subLaw zs off n).length 140737488355000, .eqN g g, .eqN (rvVLaw (subLaw zs off n) (rnOLaw (subLaw zs off n) 0 0 4) (rnELaw (subLaw zs off n) 0 0 4)).length (rvVLaw (subLaw zs off n) (rnOLaw (subLaw zs off n) 0 0 4) (rnELaw (subLaw zs off n) 0 0
 4)).length, .eqN (lfALaw (subLaw zs off n) (rvOLaw (subLaw zs off n) (rnOLaw (subLaw zs off n) 0 0 4) (rnELaw (subLaw zs off n) 0 0 4)) (rvELaw (subLaw zs off n) (rnOLaw (subLaw zs off n) 0 0 4) (rnELaw (subLaw zs off n) 0 0 4))).length (lfALaw (subLaw zs off n) (rvOLaw (subLaw zs off n) (rnOLaw (subLaw zs off n) 0 0 4) (rnELaw (subLaw zs off n) 0 0 4)) (rvELaw (subLaw zs off n) (rnOLaw (subLaw zs
 off n) 0 0 4) (rnELaw (subLaw zs off n) 0 0 4))).length, .eqN (lfBLaw (subLaw zs off n) (rvOLaw (subLaw zs off n) (rnOLaw (subLaw zs off n) 0 0 4) (rnELaw (subLaw zs off n) 0 0 4)) (rvELaw (subLaw zs off n) (rnOLaw (subLaw zs off n) 0 0 4) (rnELaw (subLaw zs off n) 0 0 4))).length (lfBLaw (subLaw zs off n) (rvOLaw (subLaw zs off n) (rnOLaw (subLaw zs off n) 0 0 4) (rnELaw (subLaw zs off n) 0 0 4))
 (rvELaw (subLaw zs off n) (rnOLaw (subLaw zs off n) 0 0 4) (rnELaw (subLaw zs off n) 0 0 4))).length, .eqN (lfCLaw (subLaw zs off n) (rvOLaw (subLaw zs off n) (rnOLaw (subLaw zs off n) 0 0 4) (rnELaw (subLaw zs off n) 0 0 4)) (rvELaw (subLaw zs off n) (rnOLaw (subLaw zs off n) 0 0 4) (rnELaw (subLaw zs off n) 0 0 4))).length (lfCLaw (subLaw zs off n) (rvOLaw (subLaw zs off n) (rnOLaw (subLaw zs off
 n) 0 0 4) (rnELaw (subLaw zs off n) 0 0 4)) (rvELaw (subLaw zs off n) (rnOLaw (subLaw zs off n) 0 0 4) (rnELaw (subLaw zs off n) 0 0 4))).length, .eqN (lfDLaw (subLaw zs off n) (rvOLaw (subLaw zs off n) (rnOLaw (subLaw zs off n) 0 0 4) (rnELaw (subLaw zs off n) 0 0 4)) (rvELaw (subLaw zs off n) (rnOLaw (subLaw zs off n) 0 0 4) (rnELaw (subLaw zs off n) 0 0 4))).length (lfDLaw (subLaw zs off n)
 (rvOLaw (subLaw zs off n) (rnOLaw (subLaw zs off n) 0 0 4) (rnELaw (subLaw zs off n) 0 0 4)) (rvELaw (subLaw zs off n) (rnOLaw (subLaw zs off n) 0 0 4) (rnELaw (subLaw zs off n) 0 0 4))).length, .eqN (lfZLaw (subLaw zs off n) (rvOLaw (subLaw zs off n) (rnOLaw (subLaw zs off n) 0 0 4) (rnELaw (subLaw zs off n) 0 0 4)) (rvELaw (subLaw zs off n) (rnOLaw (subLaw zs off n) 0 0 4) (rnELaw (subLaw zs off
 n) 0 0 4))).length (lfZLaw (subLaw zs off n) (rvOLaw (subLaw zs off n) (rnOLaw (subLaw zs off n) 0 0 4) (rnELaw (subLaw zs off n) 0 0 4)) (rvELaw (subLaw zs off n) (rnOLaw (subLaw zs off n) 0 0 4) (rnELaw (subLaw zs off n) 0 0 4))).length, .eqN (rvVLaw (subLaw zs off n) (lfOLaw (subLaw zs off n) (rvOLaw (subLaw zs off n) (rnOLaw (subLaw zs off n) 0 0 4) (rnELaw (subLaw zs off n) 0 0 4)) (rvELaw
 (subLaw zs off n) (rnOLaw (subLaw zs off n) 0 0 4) (rnELaw (subLaw zs off n) 0 0 4))) (lfELaw (subLaw zs off n) (rvOLaw (subLaw zs off n) (rnOLaw (subLaw zs off n) 0 0 4) (rnELaw (subLaw zs off n) 0 0 4)) (rvELaw (subLaw zs off n) (rnOLaw (subLaw zs off n) 0 0 4) (rnELaw (subLaw zs off n) 0 0 4)))).length (rvVLaw (subLaw zs off n) (lfOLaw (subLaw zs off n) (rvOLaw (subLaw zs off n) (rnOLaw (subLaw
 zs off n) 0 0 4) (rnELaw (subLaw zs off n) 0 0 4)) (rvELaw (subLaw zs off n) (rnOLaw (subLaw zs off n) 0 0 4) (rnELaw (subLaw zs off n) 0 0 4))) (lfELaw (subLaw zs off n) (rvOLaw (subLaw zs off n) (rnOLaw (subLaw zs off n) 0 0 4) (rnELaw (subLaw zs off n) 0 0 4)) (rvELaw (subLaw zs off n) (rnOLaw (subLaw zs off n) 0 0 4) (rnELaw (subLaw zs off n) 0 0 4)))).length, .eqN ((subLaw zs off n).length -
 rvOLaw (subLaw zs off n) (lfOLaw (subLaw zs off n) (rvOLaw (subLaw zs off n) (rnOLaw (subLaw zs off n) 0 0 4) (rnELaw (subLaw zs off n) 0 0 4)) (rvELaw (subLaw zs off n) (rnOLaw (subLaw zs off n) 0 0 4) (rnELaw (subLaw zs off n) 0 0 4))) (lfELaw (subLaw zs off n) (rvOLaw (subLaw zs off n) (rnOLaw (subLaw zs off n) 0 0 4) (rnELaw (subLaw zs off n) 0 0 4)) (rvELaw (subLaw zs off n) (rnOLaw (subLaw zs
 off n) 0 0 4) (rnELaw (subLaw zs off n) 0 0 4)))) ((subLaw zs off n).length - rvOLaw (subLaw zs off n) (lfOLaw (subLaw zs off n) (rvOLaw (subLaw zs off n) (rnOLaw (subLaw zs off n) 0 0 4) (rnELaw (subLaw zs off n) 0 0 4)) (rvELaw (subLaw zs off n) (rnOLaw (subLaw zs off n) 0 0 4) (rnELaw (subLaw zs off n) 0 0 4))) (lfELaw (subLaw zs off n) (rvOLaw (subLaw zs off n) (rnOLaw (subLaw zs off n) 0 0 4)
 (rnELaw (subLaw zs off n) 0 0 4)) (rvELaw (subLaw zs off n) (rnOLaw (subLaw zs off n) 0 0 4) (rnELaw (subLaw zs off n) 0 0 4)))), .p ((reLaw (subLaw zs off n) (rvOLaw (subLaw zs off n) (lfOLaw (subLaw zs off n) (rvOLaw (subLaw zs off n) (rnOLaw (subLaw zs off n) 0 0 4) (rnELaw (subLaw zs off n) 0 0 4)) (rvELaw (subLaw zs off n) (rnOLaw (subLaw zs off n) 0 0 4) (rnELaw (subLaw zs off n) 0 0 4)))
 (lfELaw (subLaw zs off n) (rvOLaw (subLaw zs off n) (rnOLaw (subLaw zs off n) 0 0 4) (rnELaw (subLaw zs off n) 0 0 4)) (rvELaw (subLaw zs off n) (rnOLaw (subLaw zs off n) 0 0 4) (rnELaw (subLaw zs off n) 0 0 4)))) (rvELaw (subLaw zs off n) (lfOLaw (subLaw zs off n) (rvOLaw (subLaw zs off n) (rnOLaw (subLaw zs off n) 0 0 4) (rnELaw (subLaw zs off n) 0 0 4)) (rvELaw (subLaw zs off n) (rnOLaw (subLaw
 zs off n) 0 0 4) (rnELaw (subLaw zs off n) 0 0 4))) (lfELaw (subLaw zs off n) (rvOLaw (subLaw zs off n) (rnOLaw (subLaw zs off n) 0 0 4) (rnELaw (subLaw zs off n) 0 0 4)) (rvELaw (subLaw zs off n) (rnOLaw (subLaw zs off n) 0 0 4) (rnELaw (subLaw zs off n) 0 0 4)))) != 0) = true)]) : OkR (nR29a zs g off n cp ow) := OkR.dem (fl := bitsF 90 1237866847214330009750865952) (by kernel_rfl) (by kernel_rfl)
 (by kernel_rfl) h
theorem nR29a_val {zs : List Int} {g : Nat} {off : Nat} {n : Nat} {cp : Option Nat} {ow : Bool} : (nR29a zs g off n cp ow).val = .tuple [.agg [.nilSlice, .nilSlice, .nilSlice, .nilSlice, .int .i64 0, .nilSlice, .nilSlice, .nilSlice], .int .i64 21] := by kernel_rfl
theorem nR29a_tab {zs : List Int} {g : Nat} {off : Nat} {n : Nat} {cp : Option Nat} {ow : Bool} : (nR29a zs g off n cp ow).tab = [some ⟨.ints .u8 zs, g, ow, 5⟩] := by kernel_rfl
noncomputable def nS62b : Summary := sumI modeO eG1p f62 [] 400 [some false, some true] [false, false, false, false, false, false, false, true]
theorem nS62b_ok : SumOk prog (fun _ => none) 62 nS62b := sumI_ok eG1p_ok hmN (fn := f62) (by kernel_rfl) (by kernel_rfl) [] FnOrc.nil 400 [some false, some true] [false, false, false, false, false, false, false, true]
noncomputable def eG4b : Env := eN0 [(27, nS27), (42, S23r), (44, nS44), (52, S29r), (54, S25r), (62, nS62b)]
theorem eG4b_ok : EnvOk eG4b := envOf_ok tysN_ok (SumsOk.cons (fn := f27) nS27_ok (by kernel_rfl) (by kernel_rfl) (by kernel_rfl) (SumsOk.cons (fn := f42) S23r_ok (by kernel_rfl) (by kernel_rfl) (by kernel_rfl) (SumsOk.cons (fn := f44) nS44_ok (by kernel_rfl) (by kernel_rfl) (by kernel_rfl) (SumsOk.cons (fn := f52) S29r_ok (by kernel_rfl) (by kernel_rfl) (by kernel_rfl) (SumsOk.cons (fn := f54) S25r_ok (by kernel_rfl) (by kernel_rfl) (by kernel_rfl) (SumsOk.cons (fn := f62) nS62b_ok (by kernel_rfl) (by kernel_rfl) (by kernel_rfl) trivial))))))
noncomputable def nR29b (zs : List Int) (g : Nat) (off : Nat) (n : Nat) (cp : Option Nat) (ow : Bool) : Res := resG 1 [0] (runF eG4b f29 [] 400 [.slice 1 0 g off n cp] [some ⟨.ints .u8 zs, g, ow, 5⟩] [])
theorem nR29b_ok {zs : List Int} {g : Nat} {off : Nat} {n : Nat} {cp : Option Nat} {ow : Bool} (h : allP [.eqN g g, .leN (off + n) zs.length, .leN n 140737488355000, .eqN n ((subLaw zs off n).length - 0), .leN 0 (subLaw zs off n).length, .p (ByLaw (subLaw zs off n)), .eqN ((subLaw zs off n).length - rnOLaw (subLaw zs off n) 0 0 4) ((subLaw zs off n).length - rnOLaw (subLaw zs off n) 0 0 4), .leN
 (rnOLaw (subLaw zs off n) 0 0 4) (subLaw zs off n).length, .p (ByLaw (subLaw zs off n)), .leN (subLaw zs off n).length 140737488355000, .eqN ((subLaw zs off n).length - rvOLaw (subLaw zs off n) (rnOLaw (subLaw zs off n) 0 0 4) (rnELaw (subLaw zs off n) 0 0 4)) ((subLaw zs off n).length - rvOLaw (subLaw zs off n) (rnOLaw (subLaw zs off n) 0 0 4) (rnELaw (subLaw zs off n) 0 0 4)), .leN (rvOLaw
 (subLaw zs off n) (rnOLaw (subLaw zs off n) 0 0 4) (rnELaw (subLaw zs off n) 0 0 4)) (subLaw zs off n).length, .p (ByLaw (subLaw zs off n)), .leN (subLaw zs off n).length 140737488355000, .eqN ((subLaw zs off n).length - lfOLaw (subLaw zs off n) (rvOLaw (subLaw zs off n) (rnOLaw (subLaw zs off n) 0 0 4) (rnELaw (subLaw zs off n) 0 0 4)) (rvELaw (subLaw zs off n) (rnOLaw (subLaw zs off n) 0 0 4)
 (rnELaw (subLaw zs off n) 0 0 4))) ((subLaw zs off n).length - lfOLaw (subLaw zs off n) (rvOLaw (subLaw zs off n) (rnOLaw (subLaw zs off n) 0 0 4) (rnELaw (subLaw zs off n) 0 0 4)) (rvELaw (subLaw zs off n) (rnOLaw (subLaw zs off n) 0 0 4) (rnELaw (subLaw zs off n) 0 0 4))), .leN (lfOLaw (subLaw zs off n) (rvOLaw (subLaw zs off n) (rnOLaw (subLaw zs off n) 0 0 4) (rnELaw (subLaw zs off n) 0 0 4))
 (rvELaw (subLaw zs off n) (rnOLaw (subLaw zs off n) 0 0 4) (rnELaw (subLaw zs off n) 0 0 4))) (subLaw zs off n).length, .p (ByLaw (subLaw zs off n)), .leN (subLaw zs off n).length 140737488355000, .eqN g g, .eqN (rvVLaw (subLaw zs off n) (rnOLaw (subLaw zs off n) 0 0 4) (rnELaw (subLaw zs off n) 0 0 4)).length (rvVLaw (subLaw zs off n) (rnOLaw (subLaw zs off n) 0 0 4) (rnELaw (subLaw zs off n) 0 0
 4)).length, .eqN (lfALaw (subLaw zs off n) (rvOLaw (subLaw zs off n) (rnOLaw (subLaw zs off n) 0 0 4) (rnELaw (subLaw zs off n) 0 0 4)) (rvELaw (subLaw zs off n) (rnOLaw (subLaw zs off n) 0 0 4) (rnELaw (subLaw zs off n) 0 0 4))).length (lfALaw (subLaw zs off n) (rvOLaw (subLaw zs off n) (rnOLaw (subLaw zs off n) 0 0 4) (rnELaw (subLaw zs off n) 0 0 4)) (rvELaw (subLaw zs off n) (rnOLaw (subLaw zs
 off n) 0 0 4) (rnELaw (subLaw zs off n) 0 0 4))).length, .eqN (lfBLaw (subLaw zs off n) (rvOLaw (subLaw zs off n) (rnOLaw (subLaw zs off n) 0 0 4) (rnELaw (subLaw zs off n) 0 0 4)) (rvELaw (subLaw zs off n) (rnOLaw (subLaw zs off n) 0 0 4) (rnELaw (subLaw zs off n) 0 0 4))).length (lfBLaw (subLaw zs off n) (rvOLaw (subLaw zs off n) (rnOLaw (subLaw zs off n) 0 0 4) (rnELaw (subLaw zs off n) 0 0 4))
 (rvELaw (subLaw zs off n) (rnOLaw (subLaw zs off n) 0 0 4) (rnELaw (subLaw zs off n) 0 0 4))).length, .eqN (lfCLaw (subLaw zs off n) (rvOLaw (subLaw zs off n) (rnOLaw (subLaw zs off n) 0 0 4) (rnELaw (subLaw zs off n) 0 0 4)) (rvELaw (subLaw zs off n) (rnOLaw (subLaw zs off n) 0 0 4) (rnELaw (subLaw zs off n) 0 0 4))).length (lfCLaw (subLaw zs off n) (rvOLaw (subLaw zs off n) (rnOLaw (subLaw zs off
 n) 0 0 4) (rnELaw (subLaw zs off n) 0 0 4)) (rvELaw (subLaw zs off n) (rnOLaw (subLaw zs off n) 0 0 4) (rnELaw (subLaw zs off n) 0 0 4))).length, .eqN (lfDLaw (subLaw zs off n) (rvOLaw (subLaw zs off n) (rnOLaw (subLaw zs off n) 0 0 4) (rnELaw (subLaw zs off n) 0 0 4)) (rvELaw (subLaw zs off n) (rnOLaw (subLaw zs off n) 0 0 4) (rnELaw (subLaw zs off n) 0 0 4))).length (lfDLaw (subLaw zs off n)
 (rvOLaw (subLaw zs off n) (rnOLaw (subLaw zs off n) 0 0 4) (rnELaw (subLaw zs off n) 0 0 4)) (rvELaw (subLaw zs off n) (rnOLaw (subLaw zs off n) 0 0 4) (rnELaw (subLaw zs off n) 0 0 4))).length, .eqN (lfZLaw (subLaw zs off n) (rvOLaw (subLaw zs off n) (rnOLaw (subLaw zs off n) 0 0 4) (rnELaw (subLaw zs off n) 0 0 4)) (rvELaw (subLaw zs off n) (rnOLaw (subLaw zs off n) 0 0 4) (rnELaw (subLaw zs off
 n) 0 0 4))).length (lfZLaw (subLaw zs off n) (rvOLaw (subLaw zs off n) (rnOLaw (subLaw zs off n) 0 0 4) (rnELaw (subLaw zs off n) 0 0 4)) (rvELaw (subLaw zs off n) (rnOLaw (subLaw zs off n) 0 0 4) (rnELaw (subLaw zs off n) 0 0 4))).length, .eqN (rvVLaw (subLaw zs off n) (lfOLaw (subLaw zs off n) (rvOLaw (subLaw zs off n) (rnOLaw (subLaw zs off n) 0 0 4) (rnELaw (subLaw zs off n) 0 0 4)) (rvELaw
 (subLaw zs off n) (rnOLaw (subLaw zs off n) 0 0 4) (rnELaw (subLaw zs off n) 0 0 4))) (lfELaw (subLaw zs off n) (rvOLaw (subLaw zs off n) (rnOLaw (subLaw zs off n) 0 0 4) (rnELaw (subLaw zs off n) 0 0 4)) (rvELaw (subLaw zs off n) (rnOLaw (subLaw zs off n) 0 0 4) (rnELaw (subLaw zs off n) 0 0 4)))).length (rvVLaw (subLaw zs off n) (lfOLaw (subLaw zs off n) (rvOLaw (subLaw zs off n) (rnOLaw (subLaw
 zs off n) 0 0 4) (rnELaw (subLaw zs off n) 0 0 4)) (rvELaw (subLaw zs off n) (rnOLaw (subLaw zs off n) 0 0 4) (rnELaw (subLaw zs off n) 0 0 4))) (lfELaw (subLaw zs off n) (rvOLaw (subLaw zs off n) (rnOLaw (subLaw zs off n) 0 0 4) (rnELaw (subLaw zs off n) 0 0 4)) (rvELaw (subLaw zs off n) (rnOLaw (subLaw zs off n) 0 0 4) (rnELaw (subLaw zs off n) 0 0 4)))).length, .eqN ((subLaw zs off n).length -
 rvOLaw (subLaw zs off n) (lfOLaw (subLaw zs off n) (rvOLaw (subLaw zs off n) (rnOLaw (subLaw zs off n) 0 0 4) (rnELaw (subLaw zs off n) 0 0 4)) (rvELaw (subLaw zs off n) (rnOLaw (subLaw zs off n) 0 0 4) (rnELaw (subLaw zs off n) 0 0 4))) (lfELaw (subLaw zs off n) (rvOLaw (subLaw zs off n) (rnOLaw (subLaw zs off n) 0 0 4) (rnELaw (subLaw zs off n) 0 0 4)) (rvELaw (subLaw zs off n) (rnOLaw (subLaw zs
 off n) 0 0 4) (rnELaw (subLaw zs off n) 0 0 4)))) ((subLaw zs off n).length - rvOLaw (subLaw zs off n) (lfOLaw (subLaw zs off n) (rvOLaw (subLaw zs off n) (rnOLaw (subLaw zs off n) 0 0 4) (rnELaw (subLaw zs off n) 0 0 4)) (rvELaw (subLaw zs off n) (rnOLaw (subLaw zs off n) 0 0 4) (rnELaw (subLaw zs off n) 0 0 4))) (lfELaw (subLaw zs off n) (rvOLaw (subLaw zs off n) (rnOLaw (subLaw zs off n) 0 0 4)
 (rnELaw (subLaw zs off n) 0 0 4)) (rvELaw (subLaw zs off n) (rnOLaw (subLaw zs off n) 0 0 4) (rnELaw (subLaw zs off n) 0 0 4)))), .p ((reLaw (subLaw zs off n) (rvOLaw (subLaw zs off n) (lfOLaw (subLaw zs off n) (rvOLaw (subLaw zs off n) (rnOLaw (subLaw zs off n) 0 0 4) (rnELaw (subLaw zs off n) 0 0 4)) (rvELaw (subLaw zs off n) (rnOLaw (subLaw zs off n) 0 0 4) (rnELaw (subLaw zs off n) 0 0 4)))
 (lfELaw (subLaw zs off n) (rvOLaw (subLaw zs off n) (rnOLaw (subLaw zs off n) 0 0 4) (rnELaw (subLaw zs off n) 0 0 4)) (rvELaw (subLaw zs off n) (rnOLaw (subLaw zs off n) 0 0 4) (rnELaw (subLaw zs off n) 0 0 4)))) (rvELaw (subLaw zs off n) (lfOLaw (subLaw zs off n) (rvOLaw (subLaw zs off n) (rnOLaw (subLaw zs off n) 0 0 4) (rnELaw (subLaw zs off n) 0 0 4)) (rvELaw (subLaw zs off n) (rnOLaw (subLaw
 zs off n) 0 0 4) (rnELaw (subLaw zs off n) 0 0 4))) (lfELaw (subLaw zs off n) (rvOLaw (subLaw zs off n) (rnOLaw (subLaw zs off n) 0 0 4) (rnELaw (subLaw zs off n) 0 0 4)) (rvELaw (subLaw zs off n) (rnOLaw (subLaw zs off n) 0 0 4) (rnELaw (subLaw zs off n) 0 0 4)))) != 0) = false), .p ((pkELaw (rvVLaw (subLaw zs off n) (rnOLaw (subLaw zs off n) 0 0 4) (rnELaw (subLaw zs off n) 0 0 4)) (lfALaw
 (subLaw zs off n) (rvOLaw (subLaw zs off n) (rnOLaw (subLaw zs off n) 0 0 4) (rnELaw (subLaw zs off n) 0 0 4)) (rvELaw (subLaw zs off n) (rnOLaw (subLaw zs off n) 0 0 4) (rnELaw (subLaw zs off n) 0 0 4))) (lfBLaw (subLaw zs off n) (rvOLaw (subLaw zs off n) (rnOLaw (subLaw zs off n) 0 0 4) (rnELaw (subLaw zs off n) 0 0 4)) (rvELaw (subLaw zs off n) (rnOLaw (subLaw zs off n) 0 0 4) (rnELaw (subLaw zs
 off n) 0 0 4))) (lfCLaw (subLaw zs off n) (rvOLaw (subLaw zs off n) (rnOLaw (subLaw zs off n) 0 0 4) (rnELaw (subLaw zs off n) 0 0 4)) (rvELaw (subLaw zs off n) (rnOLaw (subLaw zs off n) 0 0 4) (rnELaw (subLaw zs off n) 0 0 4))) (lfSLaw (subLaw zs off n) (rvOLaw (subLaw zs off n) (rnOLaw (subLaw zs off n) 0 0 4) (rnELaw (subLaw zs off n) 0 0 4)) (rvELaw (subLaw zs off n) (rnOLaw (subLaw zs off n) 0
 0 4) (rnELaw (subLaw zs off n) 0 0 4))) (lfDLaw (subLaw zs off n) (rvOLaw (subLaw zs off n) (rnOLaw (subLaw zs off n) 0 0 4) (rnELaw (subLaw zs off n) 0 0 4)) (rvELaw (subLaw zs off n) (rnOLaw (subLaw zs off n) 0 0 4) (rnELaw (subLaw zs off n) 0 0 4))) (lfZLaw (subLaw zs off n) (rvOLaw (subLaw zs off n) (rnOLaw (subLaw zs off n) 0 0 4) (rnELaw (subLaw zs off n) 0 0 4)) (rvELaw (subLaw zs off n)
 (rnOLaw (subLaw zs off n) 0 0 4) (rnELaw (subLaw zs off n) 0 0 4))) (rvVLaw (subLaw zs off n) (lfOLaw (subLaw zs off n) (rvOLaw (subLaw zs off n) (rnOLaw (subLaw zs off n) 0 0 4) (rnELaw (subLaw zs off n) 0 0 4)) (rvELaw (subLaw zs off n) (rnOLaw (subLaw zs off n) 0 0 4) (rnELaw (subLaw zs off n) 0 0 4))) (lfELaw (subLaw zs off n) (rvOLaw (subLaw zs off n) (rnOLaw (subLaw zs off n) 0 0 4) (rnELaw
 (subLaw zs off n) 0 0 4)) (rvELaw (subLaw zs off n) (rnOLaw (subLaw zs off n) 0 0 4) (rnELaw (subLaw zs off n) 0 0 4)))) != 0) = true)]) : OkR (nR29b zs g off n cp ow) := OkR.dem (fl := bitsF 91 2475731328635984370326571040) (by kernel_rfl) (by kernel_rfl) (by kernel_rfl) h
theorem nR29b_val {zs : List Int} {g : Nat} {off : Nat} {n : Nat} {cp : Option Nat} {ow : Bool} : (nR29b zs g off n cp ow).val = .tuple [.agg [.nilSlice, .nilSlice, .nilSlice, .nilSlice, .int .i64 0, .nilSlice, .nilSlice, .nilSlice], .int .i64 21] := by kernel_rfl
theorem nR29b_tab {zs : List Int} {g : Nat} {off : Nat} {n : Nat} {cp : Option Nat} {ow : Bool} : (nR29b zs g off n cp ow).tab = [some ⟨.ints .u8 zs, g, ow, 5⟩] := by kernel_rfl
noncomputable def nS62c : Summary := sumI modeO eG1p f62 [] 400 [some false, some false, some true] [false, false, false, false, false, false, false, true]
theorem nS62c_ok : SumOk prog (fun _ => none) 62 nS62c := sumI_ok eG1p_ok hmN (fn := f62) (by kernel_rfl) (by kernel_rfl) [] FnOrc.nil 400 [some false, some false, some true] [false, false, false, false, false, false, false, true]
noncomputable def eG4c : Env := eN0 [(27, nS27), (42, S23r), (44, nS44), (52, S29r), (54, S25r), (62, nS62c)]
theorem eG4c_ok : EnvOk eG4c := envOf_ok tysN_ok (SumsOk.cons (fn := f27) nS27_ok (by kernel_rfl) (by kernel_rfl) (by kernel_rfl) (SumsOk.cons (fn := f42) S23r_ok (by kernel_rfl) (by kernel_rfl) (by kernel_rfl) (SumsOk.cons (fn := f44) nS44_ok (by kernel_rfl) (by kernel_rfl) (by kernel_rfl) (SumsOk.cons (fn := f52) S29r_ok (by kernel_rfl) (by kernel_rfl) (by kernel_rfl) (SumsOk.cons (fn := f54) S25r_ok (by kernel_rfl) (by kernel_rfl) (by kernel_rfl) (SumsOk.cons (fn := f62) nS62c_ok (by kernel_rfl) (by kernel_rfl) (by kernel_rfl) trivial))))))
noncomputable def nR29c (zs : List Int) (g : Nat) (off : Nat) (n : Nat) (cp : Option Nat) (ow : Bool) : Res := resG 1 [0, 5, 6, 7, 8, 9, 10, 11] (runF eG4c f29 [] 400 [.slice 1 0 g off n cp] [some ⟨.ints .u8 zs, g, ow, 5⟩] [])
theorem nR29c_ok {zs : List Int} {g : Nat} {off : Nat} {n : Nat} {cp : Option Nat} {ow : Bool} (h : allP [.eqN g g, .leN (off + n) zs.length, .leN n 140737488355000, .eqN n ((subLaw zs off n).length - 0), .leN 0 (subLaw zs off n).length, .p (ByLaw (subLaw zs off n)), .eqN ((subLaw zs off n).length - rnOLaw (subLaw zs off n) 0 0 4) ((subLaw zs off n).length - rnOLaw (subLaw zs off n) 0 0 4), .leN
 (rnOLaw (subLaw zs off n) 0 0 4) (subLaw zs off n).length, .p (ByLaw (subLaw zs off n)), .leN (subLaw zs off n).length 140737488355000, .eqN ((subLaw zs off n).length - rvOLaw (subLaw zs off n) (rnOLaw (subLaw zs off n) 0 0 4) (rnELaw (subLaw zs off n) 0 0 4)) ((subLaw zs off n).length - rvOLaw (subLaw zs off n) (rnOLaw (subLaw zs off n) 0 0 4) (rnELaw (subLaw zs off n) 0 0 4)), .leN (rvOLaw
 (subLaw zs off n) (rnOLaw (subLaw zs off n) 0 0 4) (rnELaw (subLaw zs off n) 0 0 4)) (subLaw zs off n).length, .p (ByLaw (subLaw zs off n)), .leN (subLaw zs off n).length 140737488355000, .eqN ((subLaw zs off n).length - lfOLaw (subLaw zs off n) (rvOLaw (subLaw zs off n) (rnOLaw (subLaw zs off n) 0 0 4) (rnELaw (subLaw zs off n) 0 0 4)) (rvELaw (subLaw zs off n) (rnOLaw (subLaw zs off n) 0 0 4)
 (rnELaw (subLaw zs off n) 0 0 4))) ((subLaw zs off n).length - lfOLaw (subLaw zs off n) (rvOLaw (subLaw zs off n) (rnOLaw (subLaw zs off n) 0 0 4) (rnELaw (subLaw zs off n) 0 0 4)) (rvELaw (subLaw zs off n) (rnOLaw (subLaw zs off n) 0 0 4) (rnELaw (subLaw zs off n) 0 0 4))), .leN (lfOLaw (subLaw zs off n) (rvOLaw (subLaw zs off n) (rnOLaw (subLaw zs off n) 0 0 4) (rnELaw (subLaw zs off n) 0 0 4))
 (rvELaw (subLaw zs off n) (rnOLaw (subLaw zs off n) 0 0 4) (rnELaw (subLaw zs off n) 0 0 4))) (subLaw zs off n).length, .p (ByLaw (subLaw zs off n)), .leN (subLaw zs off n).length 140737488355000, .eqN g g, .eqN (rvVLaw (subLaw zs off n) (rnOLaw (subLaw zs off n) 0 0 4) (rnELaw (subLaw zs off n) 0 0 4)).length (rvVLaw (subLaw zs off n) (rnOLaw (subLaw zs off n) 0 0 4) (rnELaw (subLaw zs off n) 0 0
 4)).length, .eqN (lfALaw (subLaw zs off n) (rvOLaw (subLaw zs off n) (rnOLaw (subLaw zs off n) 0 0 4) (rnELaw (subLaw zs off n) 0 0 4)) (rvELaw (subLaw zs off n) (rnOLaw (subLaw zs off n) 0 0 4) (rnELaw (subLaw zs off n) 0 0 4))).length (lfALaw (subLaw zs off n) (rvOLaw (subLaw zs off n) (rnOLaw (subLaw zs off n) 0 0 4) (rnELaw (subLaw zs off n) 0 0 4)) (rvELaw (subLaw zs off n) (rnOLaw (subLaw zs
 off n) 0 0 4) (rnELaw (subLaw zs off n) 0 0 4))).length, .eqN (lfBLaw (subLaw zs off n) (rvOLaw (subLaw zs off n) (rnOLaw (subLaw zs off n) 0 0 4) (rnELaw (subLaw zs off n) 0 0 4)) (rvELaw (subLaw zs off n) (rnOLaw (subLaw zs off n) 0 0 4) (rnELaw (subLaw zs off n) 0 0 4))).length (lfBLaw (subLaw zs off n) (rvOLaw (subLaw zs off n) (rnOLaw (subLaw zs off n) 0 0 4) (rnELaw (subLaw zs off n) 0 0 4))
 (rvELaw (subLaw zs off n) (rnOLaw (subLaw zs off n) 0 0 4) (rnELaw (subLaw zs off n) 0 0 4))).length, .eqN (lfCLaw (subLaw zs off n) (rvOLaw (subLaw zs off n) (rnOLaw (subLaw zs off n) 0 0 4) (rnELaw (subLaw zs off n) 0 0 4)) (rvELaw (subLaw zs off n) (rnOLaw (subLaw zs off n) 0 0 4) (rnELaw (subLaw zs off n) 0 0 4))).length (lfCLaw (subLaw zs off n) (rvOLaw (subLaw zs off n) (rnOLaw (subLaw zs off
 n) 0 0 4) (rnELaw (subLaw zs off n) 0 0 4)) (rvELaw (subLaw zs off n) (rnOLaw (subLaw zs off n) 0 0 4) (rnELaw (subLaw zs off n) 0 0 4))).length, .eqN (lfDLaw (subLaw zs off n) (rvOLaw (subLaw zs off n) (rnOLaw (subLaw zs off n) 0 0 4) (rnELaw (subLaw zs off n) 0 0 4)) (rvELaw (subLaw zs off n) (rnOLaw (subLaw zs off n) 0 0 4) (rnELaw (subLaw zs off n) 0 0 4))).length (lfDLaw (subLaw zs off n)
 (rvOLaw (subLaw zs off n) (rnOLaw (subLaw zs off n) 0 0 4) (rnELaw (subLaw zs off n) 0 0 4)) (rvELaw (subLaw zs off n) (rnOLaw (subLaw zs off n) 0 0 4) (rnELaw (subLaw zs off n) 0 0 4))).length, .eqN (lfZLaw (subLaw zs off n) (rvOLaw (subLaw zs off n) (rnOLaw (subLaw zs off n) 0 0 4) (rnELaw (subLaw zs off n) 0 0 4)) (rvELaw (subLaw zs off n) (rnOLaw (subLaw zs off n) 0 0 4) (rnELaw (subLaw zs off
 n) 0 0 4))).length (lfZLaw (subLaw zs off n) (rvOLaw (subLaw zs off n) (rnOLaw (subLaw zs off n) 0 0 4) (rnELaw (subLaw zs off n) 0 0 4)) (rvELaw (subLaw zs off n) (rnOLaw (subLaw zs off n) 0 0 4) (rnELaw (subLaw zs off n) 0 0 4))).length, .eqN (rvVLaw (subLaw zs off n) (lfOLaw (subLaw zs off n) (rvOLaw (subLaw zs off n) (rnOLaw (subLaw zs off n) 0 0 4) (rnELaw (subLaw zs off n) 0 0 4)) (rvELaw
 (subLaw zs off n) (rnOLaw (subLaw zs off n) 0 0 4) (rnELaw (subLaw zs off n) 0 0 4))) (lfELaw (subLaw zs off n) (rvOLaw (subLaw zs off n) (rnOLaw (subLaw zs off n) 0 0 4) (rnELaw (subLaw zs off n) 0 0 4)) (rvELaw (subLaw zs off n) (rnOLaw (subLaw zs off n) 0 0 4) (rnELaw (subLaw zs off n) 0 0 4)))).length (rvVLaw (subLaw zs off n) (lfOLaw (subLaw zs off n) (rvOLaw (subLaw zs off n) (rnOLaw (subLaw
 zs off n) 0 0 4) (rnELaw (subLaw zs off n) 0 0 4)) (rvELaw (subLaw zs off n) (rnOLaw (subLaw zs off n) 0 0 4) (rnELaw (subLaw zs off n) 0 0 4))) (lfELaw (subLaw zs off n) (rvOLaw (subLaw zs off n) (rnOLaw (subLaw zs off n) 0 0 4) (rnELaw (subLaw zs off n) 0 0 4)) (rvELaw (subLaw zs off n) (rnOLaw (subLaw zs off n) 0 0 4) (rnELaw (subLaw zs off n) 0 0 4)))).length, .eqN ((subLaw zs off n).length -
 rvOLaw (subLaw zs off n) (lfOLaw (subLaw zs off n) (rvOLaw (subLaw zs off n) (rnOLaw (subLaw zs off n) 0 0 4) (rnELaw (subLaw zs off n) 0 0 4)) (rvELaw (subLaw zs off n) (rnOLaw (subLaw zs off n) 0 0 4) (rnELaw (subLaw zs off n) 0 0 4))) (lfELaw (subLaw zs off n) (rvOLaw (subLaw zs off n) (rnOLaw (subLaw zs off n) 0 0 4) (rnELaw (subLaw zs off n) 0 0 4)) (rvELaw (subLaw zs off n) (rnOLaw (subLaw zs
 off n) 0 0 4) (rnELaw (subLaw zs off n) 0 0 4)))) ((subLaw zs off n).length - rvOLaw (subLaw zs off n) (lfOLaw (subLaw zs off n) (rvOLaw (subLaw zs off n) (rnOLaw (subLaw zs off n) 0 0 4) (rnELaw (subLaw zs off n) 0 0 4)) (rvELaw (subLaw zs off n) (rnOLaw (subLaw zs off n) 0 0 4) (rnELaw (subLaw zs off n) 0 0 4))) (lfELaw (subLaw zs off n) (rvOLaw (subLaw zs off n) (rnOLaw (subLaw zs off n) 0 0 4)
 (rnELaw (subLaw zs off n) 0 0 4)) (rvELaw (subLaw zs off n) (rnOLaw (subLaw zs off n) 0 0 4) (rnELaw (subLaw zs off n) 0 0 4)))), .p ((reLaw (subLaw zs off n) (rvOLaw (subLaw zs off n) (lfOLaw (subLaw zs off n) (rvOLaw (subLaw zs off n) (rnOLaw (subLaw zs off n) 0 0 4) (rnELaw (subLaw zs off n) 0 0 4)) (rvELaw (subLaw zs off n) (rnOLaw (subLaw zs off n) 0 0 4) (rnELaw (subLaw zs off n) 0 0 4)))
 (lfELaw (subLaw zs off n) (rvOLaw (subLaw zs off n) (rnOLaw (subLaw zs off n) 0 0 4) (rnELaw (subLaw zs off n) 0 0 4)) (rvELaw (subLaw zs off n) (rnOLaw (subLaw zs off n) 0 0 4) (rnELaw (subLaw zs off n) 0 0 4)))) (rvELaw (subLaw zs off n) (lfOLaw (subLaw zs off n) (rvOLaw (subLaw zs off n) (rnOLaw (subLaw zs off n) 0 0 4) (rnELaw (subLaw zs off n) 0 0 4)) (rvELaw (subLaw zs off n) (rnOLaw (subLaw
 zs off n) 0 0 4) (rnELaw (subLaw zs off n) 0 0 4))) (lfELaw (subLaw zs off n) (rvOLaw (subLaw zs off n) (rnOLaw (subLaw zs off n) 0 0 4) (rnELaw (subLaw zs off n) 0 0 4)) (rvELaw (subLaw zs off n) (rnOLaw (subLaw zs off n) 0 0 4) (rnELaw (subLaw zs off n) 0 0 4)))) != 0) = false), .p ((pkELaw (rvVLaw (subLaw zs off n) (rnOLaw (subLaw zs off n) 0 0 4) (rnELaw (subLaw zs off n) 0 0 4)) (lfALaw
 (subLaw zs off n) (rvOLaw (subLaw zs off n) (rnOLaw (subLaw zs off n) 0 0 4) (rnELaw (subLaw zs off n) 0 0 4)) (rvELaw (subLaw zs off n) (rnOLaw (subLaw zs off n) 0 0 4) (rnELaw (subLaw zs off n) 0 0 4))) (lfBLaw (subLaw zs off n) (rvOLaw (subLaw zs off n) (rnOLaw (subLaw zs off n) 0 0 4) (rnELaw (subLaw zs off n) 0 0 4)) (rvELaw (subLaw zs off n) (rnOLaw (subLaw zs off n) 0 0 4) (rnELaw (subLaw zs
 off n) 0 0 4))) (lfCLaw (subLaw zs off n) (rvOLaw (subLaw zs off n) (rnOLaw (subLaw zs off n) 0 0 4) (rnELaw (subLaw zs off n) 0 0 4)) (rvELaw (subLaw zs off n) (rnOLaw (subLaw zs off n) 0 0 4) (rnELaw (subLaw zs off n) 0 0 4))) (lfSLaw (subLaw zs off n) (rvOLaw (subLaw zs off n) (rnOLaw (subLaw zs off n) 0 0 4) (rnELaw (subLaw zs off n) 0 0 4)) (rvELaw (subLaw zs off n) (rnOLaw (subLaw zs off n) 0
 0 4) (rnELaw (subLaw zs off n) 0 0 4))) (lfDLaw (subLaw zs off n) (rvOLaw (subLaw zs off n) (rnOLaw (subLaw zs off n) 0 0 4) (rnELaw (subLaw zs off n) 0 0 4)) (rvELaw (subLaw zs off n) (rnOLaw (subLaw zs off n) 0 0 4) (rnELaw (subLaw zs off n) 0 0 4))) (lfZLaw (subLaw zs off n) (rvOLaw (subLaw zs off n) (rnOLaw (subLaw zs off n) 0 0 4) (rnELaw (subLaw zs off n) 0 0 4)) (rvELaw (subLaw zs off n)
 (rnOLaw (subLaw zs off n) 0 0 4) (rnELaw (subLaw zs off n) 0 0 4))) (rvVLaw (subLaw zs off n) (lfOLaw (subLaw zs off n) (rvOLaw (subLaw zs off n) (rnOLaw (subLaw zs off n) 0 0 4) (rnELaw (subLaw zs off n) 0 0 4)) (rvELaw (subLaw zs off n) (rnOLaw (subLaw zs off n) 0 0 4) (rnELaw (subLaw zs off n) 0 0 4))) (lfELaw (subLaw zs off n) (rvOLaw (subLaw zs off n) (rnOLaw (subLaw zs off n) 0 0 4) (rnELaw
 (subLaw zs off n) 0 0 4)) (rvELaw (subLaw zs off n) (rnOLaw (subLaw zs off n) 0 0 4) (rnELaw (subLaw zs off n) 0 0 4)))) != 0) = false), .eqN (pkGLaw (rvVLaw (subLaw zs off n) (rnOLaw (subLaw zs off n) 0 0 4) (rnELaw (subLaw zs off n) 0 0 4)) (lfALaw (subLaw zs off n) (rvOLaw (subLaw zs off n) (rnOLaw (subLaw zs off n) 0 0 4) (rnELaw (subLaw zs off n) 0 0 4)) (rvELaw (subLaw zs off n) (rnOLaw
 (subLaw zs off n) 0 0 4) (rnELaw (subLaw zs off n) 0 0 4))) (lfBLaw (subLaw zs off n) (rvOLaw (subLaw zs off n) (rnOLaw (subLaw zs off n) 0 0 4) (rnELaw (subLaw zs off n) 0 0 4)) (rvELaw (subLaw zs off n) (rnOLaw (subLaw zs off n) 0 0 4) (rnELaw (subLaw zs off n) 0 0 4))) (lfCLaw (subLaw zs off n) (rvOLaw (subLaw zs off n) (rnOLaw (subLaw zs off n) 0 0 4) (rnELaw (subLaw zs off n) 0 0 4)) (rvELaw
 (subLaw zs off n) (rnOLaw (subLaw zs off n) 0 0 4) (rnELaw (subLaw zs off n) 0 0 4))) (lfSLaw (subLaw zs off n) (rvOLaw (subLaw zs off n) (rnOLaw (subLaw zs off n) 0 0 4) (rnELaw (subLaw zs off n) 0 0 4)) (rvELaw (subLaw zs off n) (rnOLaw (subLaw zs off n) 0 0 4) (rnELaw (subLaw zs off n) 0 0 4))) (lfDLaw (subLaw zs off n) (rvOLaw (subLaw zs off n) (rnOLaw (subLaw zs off n) 0 0 4) (rnELaw (subLaw
 zs off n) 0 0 4)) (rvELaw (subLaw zs off n) (rnOLaw (subLaw zs off n) 0 0 4) (rnELaw (subLaw zs off n) 0 0 4))) (lfZLaw (subLaw zs off n) (rvOLaw (subLaw zs off n) (rnOLaw (subLaw zs off n) 0 0 4) (rnELaw (subLaw zs off n) 0 0 4)) (rvELaw (subLaw zs off n) (rnOLaw (subLaw zs off n) 0 0 4) (rnELaw (subLaw zs off n) 0 0 4))) (rvVLaw (subLaw zs off n) (lfOLaw (subLaw zs off n) (rvOLaw (subLaw zs off
 n) (rnOLaw (subLaw zs off n) 0 0 4) (rnELaw (subLaw zs off n) 0 0 4)) (rvELaw (subLaw zs off n) (rnOLaw (subLaw zs off n) 0 0 4) (rnELaw (subLaw zs off n) 0 0 4))) (lfELaw (subLaw zs off n) (rvOLaw (subLaw zs off n) (rnOLaw (subLaw zs off n) 0 0 4) (rnELaw (subLaw zs off n) 0 0 4)) (rvELaw (subLaw zs off n) (rnOLaw (subLaw zs off n) 0 0 4) (rnELaw (subLaw zs off n) 0 0 4))))) (pkGLaw (rvVLaw
 (subLaw zs off n) (rnOLaw (subLaw zs off n) 0 0 4) (rnELaw (subLaw zs off n) 0 0 4)) (lfALaw (subLaw zs off n) (rvOLaw (subLaw zs off n) (rnOLaw (subLaw zs off n) 0 0 4) (rnELaw (subLaw zs off n) 0 0 4)) (rvELaw (subLaw zs off n) (rnOLaw (subLaw zs off n) 0 0 4) (rnELaw (subLaw zs off n) 0 0 4))) (lfBLaw (subLaw zs off n) (rvOLaw (subLaw zs off n) (rnOLaw (subLaw zs off n) 0 0 4) (rnELaw (subLaw zs
 off n) 0 0 4)) (rvELaw (subLaw zs off n) (rnOLaw (subLaw zs off n) 0 0 4) (rnELaw (subLaw zs off n) 0 0 4))) (lfCLaw (subLaw zs off n) (rvOLaw (subLaw zs off n) (rnOLaw (subLaw zs off n) 0 0 4) (rnELaw (subLaw zs off n) 0 0 4)) (rvELaw (subLaw zs off n) (rnOLaw (subLaw zs off n) 0 0 4) (rnELaw (subLaw zs off n) 0 0 4))) (lfSLaw (subLaw zs off n) (rvOLaw (subLaw zs off n) (rnOLaw (subLaw zs off n) 0
 0 4) (rnELaw (subLaw zs off n) 0 0 4)) (rvELaw (subLaw zs off n) (rnOLaw (subLaw zs off n) 0 0 4) (rnELaw (subLaw zs off n) 0 0 4))) (lfDLaw (subLaw zs off n) (rvOLaw (subLaw zs off n) (rnOLaw (subLaw zs off n) 0 0 4) (rnELaw (subLaw zs off n) 0 0 4)) (rvELaw (subLaw zs off n) (rnOLaw (subLaw zs off n) 0 0 4) (rnELaw (subLaw zs off n) 0 0 4))) (lfZLaw (subLaw zs off n) (rvOLaw (subLaw zs off n)
 (rnOLaw (subLaw zs off n) 0 0 4) (rnELaw (subLaw zs off n) 0 0 4)) (rvELaw (subLaw zs off n) (rnOLaw (subLaw zs off n) 0 0 4) (rnELaw (subLaw zs off n) 0 0 4))) (rvVLaw (subLaw zs off n) (lfOLaw (subLaw zs off n) (rvOLaw (subLaw zs off n) (rnOLaw (subLaw zs off n) 0 0 4) (rnELaw (subLaw zs off n) 0 0 4)) (rvELaw (subLaw zs off n) (rnOLaw (subLaw zs off n) 0 0 4) (rnELaw (subLaw zs off n) 0 0 4)))
 (lfELaw (subLaw zs off n) (rvOLaw (subLaw zs off n) (rnOLaw (subLaw zs off n) 0 0 4) (rnELaw (subLaw zs off n) 0 0 4)) (rvELaw (subLaw zs off n) (rnOLaw (subLaw zs off n) 0 0 4) (rnELaw (subLaw zs off n) 0 0 4))))), .eqN g g, .eqN (pkGLaw (rvVLaw (subLaw zs off n) (rnOLaw (subLaw zs off n) 0 0 4) (rnELaw (subLaw zs off n) 0 0 4)) (lfALaw (subLaw zs off n) (rvOLaw (subLaw zs off n) (rnOLaw (subLaw
 zs off n) 0 0 4) (rnELaw (subLaw zs off n) 0 0 4)) (rvELaw (subLaw zs off n) (rnOLaw (subLaw zs off n) 0 0 4) (rnELaw (subLaw zs off n) 0 0 4))) (lfBLaw (subLaw zs off n) (rvOLaw (subLaw zs off n) (rnOLaw (subLaw zs off n) 0 0 4) (rnELaw (subLaw zs off n) 0 0 4)) (rvELaw (subLaw zs off n) (rnOLaw (subLaw zs off n) 0 0 4) (rnELaw (subLaw zs off n) 0 0 4))) (lfCLaw (subLaw zs off n) (rvOLaw (subLaw
 zs off n) (rnOLaw (subLaw zs off n) 0 0 4) (rnELaw (subLaw zs off n) 0 0 4)) (rvELaw (subLaw zs off n) (rnOLaw (subLaw zs off n) 0 0 4) (rnELaw (subLaw zs off n) 0 0 4))) (lfSLaw (subLaw zs off n) (rvOLaw (subLaw zs off n) (rnOLaw (subLaw zs off n) 0 0 4) (rnELaw (subLaw zs off n) 0 0 4)) (rvELaw (subLaw zs off n) (rnOLaw (subLaw zs off n) 0 0 4) (rnELaw (subLaw zs off n) 0 0 4))) (lfDLaw (subLaw
 zs off n) (rvOLaw (subLaw zs off n) (rnOLaw (subLaw zs off n) 0 0 4) (rnELaw (subLaw zs off n) 0 0 4)) (rvELaw (subLaw zs off n) (rnOLaw (subLaw zs off n) 0 0 4) (rnELaw (subLaw zs off n) 0 0 4))) (lfZLaw (subLaw zs off n) (rvOLaw (subLaw zs off n) (rnOLaw (subLaw zs off n) 0 0 4) (rnELaw (subLaw zs off n) 0 0 4)) (rvELaw (subLaw zs off n) (rnOLaw (subLaw zs off n) 0 0 4) (rnELaw (subLaw zs off n)
 0 0 4))) (rvVLaw (subLaw zs off n) (lfOLaw (subLaw zs off n) (rvOLaw (subLaw zs off n) (rnOLaw (subLaw zs off n) 0 0 4) (rnELaw (subLaw zs off n) 0 0 4)) (rvELaw (subLaw zs off n) (rnOLaw (subLaw zs off n) 0 0 4) (rnELaw (subLaw zs off n) 0 0 4))) (lfELaw (subLaw zs off n) (rvOLaw (subLaw zs off n) (rnOLaw (subLaw zs off n) 0 0 4) (rnELaw (subLaw zs off n) 0 0 4)) (rvELaw (subLaw zs off n) (rnOLaw
 (subLaw zs off n) 0 0 4) (rnELaw (subLaw zs off n) 0 0 4))))) (pkGLaw (rvVLaw (subLaw zs off n) (rnOLaw (subLaw zs off n) 0 0 4) (rnELaw (subLaw zs off n) 0 0 4)) (lfALaw (subLaw zs off n) (rvOLaw (subLaw zs off n) (rnOLaw (subLaw zs off n) 0 0 4) (rnELaw (subLaw zs off n) 0 0 4)) (rvELaw (subLaw zs off n) (rnOLaw (subLaw zs off n) 0 0 4) (rnELaw (subLaw zs off n) 0 0 4))) (lfBLaw (subLaw zs off n)
 (rvOLaw (subLaw zs off n) (rnOLaw (subLaw zs off n) 0 0 4) (rnELaw (subLaw zs off n) 0 0 4)) (rvELaw (subLaw zs off n) (rnOLaw (subLaw zs off n) 0 0 4) (rnELaw (subLaw zs off n) 0 0 4))) (lfCLaw (subLaw zs off n) (rvOLaw (subLaw zs off n) (rnOLaw (subLaw zs off n) 0 0 4) (rnELaw (subLaw zs off n) 0 0 4)) (rvELaw (subLaw zs off n) (rnOLaw (subLaw zs off n) 0 0 4) (rnELaw (subLaw zs off n) 0 0 4)))
 (lfSLaw (subLaw zs off n) (rvOLaw (subLaw zs off n) (rnOLaw (subLaw zs off n) 0 0 4) (rnELaw (subLaw zs off n) 0 0 4)) (rvELaw (subLaw zs off n) (rnOLaw (subLaw zs off n) 0 0 4) (rnELaw (subLaw zs off n) 0 0 4))) (lfDLaw (subLaw zs off n) (rvOLaw (subLaw zs off n) (rnOLaw (subLaw zs off n) 0 0 4) (rnELaw (subLaw zs off n) 0 0 4)) (rvELaw (subLaw zs off n) (rnOLaw (subLaw zs off n) 0 0 4) (rnELaw
 (subLaw zs off n) 0 0 4))) (lfZLaw (subLaw zs off n) (rvOLaw (subLaw zs off n) (rnOLaw (subLaw zs off n) 0 0 4) (rnELaw (subLaw zs off n) 0 0 4)) (rvELaw (subLaw zs off n) (rnOLaw (subLaw zs off n) 0 0 4) (rnELaw (subLaw zs off n) 0 0 4))) (rvVLaw (subLaw zs off n) (lfOLaw (subLaw zs off n) (rvOLaw (subLaw zs off n) (rnOLaw (subLaw zs off n) 0 0 4) (rnELaw (subLaw zs off n) 0 0 4)) (rvELaw (subLaw
 zs off n) (rnOLaw (subLaw zs off n) 0 0 4) (rnELaw (subLaw zs off n) 0 0 4))) (lfELaw (subLaw zs off n) (rvOLaw (subLaw zs off n) (rnOLaw (subLaw zs off n) 0 0 4) (rnELaw (subLaw zs off n) 0 0 4)) (rvELaw (subLaw zs off n) (rnOLaw (subLaw zs off n) 0 0 4) (rnELaw (subLaw zs off n) 0 0 4))))), .leN (0 + (pkBLaw (rvVLaw (subLaw zs off n) (rnOLaw (subLaw zs off n) 0 0 4) (rnELaw (subLaw zs off n) 0 0
 4)) (lfALaw (subLaw zs off n) (rvOLaw (subLaw zs off n) (rnOLaw (subLaw zs off n) 0 0 4) (rnELaw (subLaw zs off n) 0 0 4)) (rvELaw (subLaw zs off n) (rnOLaw (subLaw zs off n) 0 0 4) (rnELaw (subLaw zs off n) 0 0 4))) (lfBLaw (subLaw zs off n) (rvOLaw (subLaw zs off n) (rnOLaw (subLaw zs off n) 0 0 4) (rnELaw (subLaw zs off n) 0 0 4)) (rvELaw (subLaw zs off n) (rnOLaw (subLaw zs off n) 0 0 4)
 (rnELaw (subLaw zs off n) 0 0 4))) (lfCLaw (subLaw zs off n) (rvOLaw (subLaw zs off n) (rnOLaw (subLaw zs off n) 0 0 4) (rnELaw (subLaw zs off n) 0 0 4)) (rvELaw (subLaw zs off n) (rnOLaw (subLaw zs off n) 0 0 4) (rnELaw (subLaw zs off n) 0 0 4))) (lfSLaw (subLaw zs off n) (rvOLaw (subLaw zs off n) (rnOLaw (subLaw zs off n) 0 0 4) (rnELaw (subLaw zs off n) 0 0 4)) (rvELaw (subLaw zs off n) (rnOLaw
 (subLaw zs off n) 0 0 4) (rnELaw (subLaw zs off n) 0 0 4))) (lfDLaw (subLaw zs off n) (rvOLaw (subLaw zs off n) (rnOLaw (subLaw zs off n) 0 0 4) (rnELaw (subLaw zs off n) 0 0 4)) (rvELaw (subLaw zs off n) (rnOLaw (subLaw zs off n) 0 0 4) (rnELaw (subLaw zs off n) 0 0 4))) (lfZLaw (subLaw zs off n) (rvOLaw (subLaw zs off n) (rnOLaw (subLaw zs off n) 0 0 4) (rnELaw (subLaw zs off n) 0 0 4)) (rvELaw
 (subLaw zs off n) (rnOLaw (subLaw zs off n) 0 0 4) (rnELaw (subLaw zs off n) 0 0 4))) (rvVLaw (subLaw zs off n) (lfOLaw (subLaw zs off n) (rvOLaw (subLaw zs off n) (rnOLaw (subLaw zs off n) 0 0 4) (rnELaw (subLaw zs off n) 0 0 4)) (rvELaw (subLaw zs off n) (rnOLaw (subLaw zs off n) 0 0 4) (rnELaw (subLaw zs off n) 0 0 4))) (lfELaw (subLaw zs off n) (rvOLaw (subLaw zs off n) (rnOLaw (subLaw zs off
 n) 0 0 4) (rnELaw (subLaw zs off n) 0 0 4)) (rvELaw (subLaw zs off n) (rnOLaw (subLaw zs off n) 0 0 4) (rnELaw (subLaw zs off n) 0 0 4))))).length) (pkBLaw (rvVLaw (subLaw zs off n) (rnOLaw (subLaw zs off n) 0 0 4) (rnELaw (subLaw zs off n) 0 0 4)) (lfALaw (subLaw zs off n) (rvOLaw (subLaw zs off n) (rnOLaw (subLaw zs off n) 0 0 4) (rnELaw (subLaw zs off n) 0 0 4)) (rvELaw (subLaw zs off n) (rnOLaw
 (subLaw zs off n) 0 0 4) (rnELaw (subLaw zs off n) 0 0 4))) (lfBLaw (subLaw zs off n) (rvOLaw (subLaw zs off n) (rnOLaw (subLaw zs off n) 0 0 4) (rnELaw (subLaw zs off n) 0 0 4)) (rvELaw (subLaw zs off n) (rnOLaw (subLaw zs off n) 0 0 4) (rnELaw (subLaw zs off n) 0 0 4))) (lfCLaw (subLaw zs off n) (rvOLaw (subLaw zs off n) (rnOLaw (subLaw zs off n) 0 0 4) (rnELaw (subLaw zs off n) 0 0 4)) (rvELaw
 (subLaw zs off n) (rnOLaw (subLaw zs off n) 0 0 4) (rnELaw (subLaw zs off n) 0 0 4))) (lfSLaw (subLaw zs off n) (rvOLaw (subLaw zs off n) (rnOLaw (subLaw zs off n) 0 0 4) (rnELaw (subLaw zs off n) 0 0 4)) (rvELaw (subLaw zs off n) (rnOLaw (subLaw zs off n) 0 0 4) (rnELaw (subLaw zs off n) 0 0 4))) (lfDLaw (subLaw zs off n) (rvOLaw (subLaw zs off n) (rnOLaw (subLaw zs off n) 0 0 4) (rnELaw (subLaw
 zs off n) 0 0 4)) (rvELaw (subLaw zs off n) (rnOLaw (subLaw zs off n) 0 0 4) (rnELaw (subLaw zs off n) 0 0 4))) (lfZLaw (subLaw zs off n) (rvOLaw (subLaw zs off n) (rnOLaw (subLaw zs off n) 0 0 4) (rnELaw (subLaw zs off n) 0 0 4)) (rvELaw (subLaw zs off n) (rnOLaw (subLaw zs off n) 0 0 4) (rnELaw (subLaw zs off n) 0 0 4))) (rvVLaw (subLaw zs off n) (lfOLaw (subLaw zs off n) (rvOLaw (subLaw zs off
 n) (rnOLaw (subLaw zs off n) 0 0 4) (rnELaw (subLaw zs off n) 0 0 4)) (rvELaw (subLaw zs off n) (rnOLaw (subLaw zs off n) 0 0 4) (rnELaw (subLaw zs off n) 0 0 4))) (lfELaw (subLaw zs off n) (rvOLaw (subLaw zs off n) (rnOLaw (subLaw zs off n) 0 0 4) (rnELaw (subLaw zs off n) 0 0 4)) (rvELaw (subLaw zs off n) (rnOLaw (subLaw zs off n) 0 0 4) (rnELaw (subLaw zs off n) 0 0 4))))).length, .eqN g g, .leN
 (off + n) zs.length, .p ((List.map byteOf (List.take (pkBLaw (rvVLaw (subLaw zs off n) (rnOLaw (subLaw zs off n) 0 0 4) (rnELaw (subLaw zs off n) 0 0 4)) (lfALaw (subLaw zs off n) (rvOLaw (subLaw zs off n) (rnOLaw (subLaw zs off n) 0 0 4) (rnELaw (subLaw zs off n) 0 0 4)) (rvELaw (subLaw zs off n) (rnOLaw (subLaw zs off n) 0 0 4) (rnELaw (subLaw zs off n) 0 0 4))) (lfBLaw (subLaw zs off n) (rvOLaw
 (subLaw zs off n) (rnOLaw (subLaw zs off n) 0 0 4) (rnELaw (subLaw zs off n) 0 0 4)) (rvELaw (subLaw zs off n) (rnOLaw (subLaw zs off n) 0 0 4) (rnELaw (subLaw zs off n) 0 0 4))) (lfCLaw (subLaw zs off n) (rvOLaw (subLaw zs off n) (rnOLaw (subLaw zs off n) 0 0 4) (rnELaw (subLaw zs off n) 0 0 4)) (rvELaw (subLaw zs off n) (rnOLaw (subLaw zs off n) 0 0 4) (rnELaw (subLaw zs off n) 0 0 4))) (lfSLaw
 (subLaw zs off n) (rvOLaw (subLaw zs off n) (rnOLaw (subLaw zs off n) 0 0 4) (rnELaw (subLaw zs off n) 0 0 4)) (rvELaw (subLaw zs off n) (rnOLaw (subLaw zs off n) 0 0 4) (rnELaw (subLaw zs off n) 0 0 4))) (lfDLaw (subLaw zs off n) (rvOLaw (subLaw zs off n) (rnOLaw (subLaw zs off n) 0 0 4) (rnELaw (subLaw zs off n) 0 0 4)) (rvELaw (subLaw zs off n) (rnOLaw (subLaw zs off n) 0 0 4) (rnELaw (subLaw zs
 off n) 0 0 4))) (lfZLaw (subLaw zs off n) (rvOLaw (subLaw zs off n) (rnOLaw (subLaw zs off n) 0 0 4) (rnELaw (subLaw zs off n) 0 0 4)) (rvELaw (subLaw zs off n) (rnOLaw (subLaw zs off n) 0 0 4) (rnELaw (subLaw zs off n) 0 0 4))) (rvVLaw (subLaw zs off n) (lfOLaw (subLaw zs off n) (rvOLaw (subLaw zs off n) (rnOLaw (subLaw zs off n) 0 0 4) (rnELaw (subLaw zs off n) 0 0 4)) (rvELaw (subLaw zs off n)
 (rnOLaw (subLaw zs off n) 0 0 4) (rnELaw (subLaw zs off n) 0 0 4))) (lfELaw (subLaw zs off n) (rvOLaw (subLaw zs off n) (rnOLaw (subLaw zs off n) 0 0 4) (rnELaw (subLaw zs off n) 0 0 4)) (rvELaw (subLaw zs off n) (rnOLaw (subLaw zs off n) 0 0 4) (rnELaw (subLaw zs off n) 0 0 4))))).length (pkBLaw (rvVLaw (subLaw zs off n) (rnOLaw (subLaw zs off n) 0 0 4) (rnELaw (subLaw zs off n) 0 0 4)) (lfALaw
 (subLaw zs off n) (rvOLaw (subLaw zs off n) (rnOLaw (subLaw zs off n) 0 0 4) (rnELaw (subLaw zs off n) 0 0 4)) (rvELaw (subLaw zs off n) (rnOLaw (subLaw zs off n) 0 0 4) (rnELaw (subLaw zs off n) 0 0 4))) (lfBLaw (subLaw zs off n) (rvOLaw (subLaw zs off n) (rnOLaw (subLaw zs off n) 0 0 4) (rnELaw (subLaw zs off n) 0 0 4)) (rvELaw (subLaw zs off n) (rnOLaw (subLaw zs off n) 0 0 4) (rnELaw (subLaw zs
 off n) 0 0 4))) (lfCLaw (subLaw zs off n) (rvOLaw (subLaw zs off n) (rnOLaw (subLaw zs off n) 0 0 4) (rnELaw (subLaw zs off n) 0 0 4)) (rvELaw (subLaw zs off n) (rnOLaw (subLaw zs off n) 0 0 4) (rnELaw (subLaw zs off n) 0 0 4))) (lfSLaw (subLaw zs off n) (rvOLaw (subLaw zs off n) (rnOLaw (subLaw zs off n) 0 0 4) (rnELaw (subLaw zs off n) 0 0 4)) (rvELaw (subLaw zs off n) (rnOLaw (subLaw zs off n) 0
 0 4) (rnELaw (subLaw zs off n) 0 0 4))) (lfDLaw (subLaw zs off n) (rvOLaw (subLaw zs off n) (rnOLaw (subLaw zs off n) 0 0 4) (rnELaw (subLaw zs off n) 0 0 4)) (rvELaw (subLaw zs off n) (rnOLaw (subLaw zs off n) 0 0 4) (rnELaw (subLaw zs off n) 0 0 4))) (lfZLaw (subLaw zs off n) (rvOLaw (subLaw zs off n) (rnOLaw (subLaw zs off n) 0 0 4) (rnELaw (subLaw zs off n) 0 0 4)) (rvELaw (subLaw zs off n)
 (rnOLaw (subLaw zs off n) 0 0 4) (rnELaw (subLaw zs off n) 0 0 4))) (rvVLaw (subLaw zs off n) (lfOLaw (subLaw zs off n) (rvOLaw (subLaw zs off n) (rnOLaw (subLaw zs off n) 0 0 4) (rnELaw (subLaw zs off n) 0 0 4)) (rvELaw (subLaw zs off n) (rnOLaw (subLaw zs off n) 0 0 4) (rnELaw (subLaw zs off n) 0 0 4))) (lfELaw (subLaw zs off n) (rvOLaw (subLaw zs off n) (rnOLaw (subLaw zs off n) 0 0 4) (rnELaw
 (subLaw zs off n) 0 0 4)) (rvELaw (subLaw zs off n) (rnOLaw (subLaw zs off n) 0 0 4) (rnELaw (subLaw zs off n) 0 0 4)))))) == List.map byteOf (List.take n (dropO off zs))) = true)]) : OkR (nR29c zs g off n cp ow) := OkR.dem (fl := bitsF 98 316893309609736191956555663392) (by kernel_rfl) (by kernel_rfl) (by kernel_rfl) h
theorem nR29c_val {zs : List Int} {g : Nat} {off : Nat} {n : Nat} {cp : Option Nat} {ow : Bool} : (nR29c zs g off n cp ow).val = .tuple [.agg [.slice 1 1 1 0 (rvVLaw (subLaw zs off n) (rnOLaw (subLaw zs off n) 0 0 4) (rnELaw (subLaw zs off n) 0 0 4)).length none, .slice 1 2 1 0 (lfALaw (subLaw zs off n) (rvOLaw (subLaw zs off n) (rnOLaw (subLaw zs off n) 0 0 4) (rnELaw (subLaw zs off n) 0 0 4))
 (rvELaw (subLaw zs off n) (rnOLaw (subLaw zs off n) 0 0 4) (rnELaw (subLaw zs off n) 0 0 4))).length none, .slice 1 3 1 0 (lfBLaw (subLaw zs off n) (rvOLaw (subLaw zs off n) (rnOLaw (subLaw zs off n) 0 0 4) (rnELaw (subLaw zs off n) 0 0 4)) (rvELaw (subLaw zs off n) (rnOLaw (subLaw zs off n) 0 0 4) (rnELaw (subLaw zs off n) 0 0 4))).length none, .slice 1 4 1 0 (lfCLaw (subLaw zs off n) (rvOLaw
 (subLaw zs off n) (rnOLaw (subLaw zs off n) 0 0 4) (rnELaw (subLaw zs off n) 0 0 4)) (rvELaw (subLaw zs off n) (rnOLaw (subLaw zs off n) 0 0 4) (rnELaw (subLaw zs off n) 0 0 4))).length none, .int .i64 (lfSLaw (subLaw zs off n) (rvOLaw (subLaw zs off n) (rnOLaw (subLaw zs off n) 0 0 4) (rnELaw (subLaw zs off n) 0 0 4)) (rvELaw (subLaw zs off n) (rnOLaw (subLaw zs off n) 0 0 4) (rnELaw (subLaw zs
 off n) 0 0 4))), .slice 1 5 1 0 (lfDLaw (subLaw zs off n) (rvOLaw (subLaw zs off n) (rnOLaw (subLaw zs off n) 0 0 4) (rnELaw (subLaw zs off n) 0 0 4)) (rvELaw (subLaw zs off n) (rnOLaw (subLaw zs off n) 0 0 4) (rnELaw (subLaw zs off n) 0 0 4))).length none, .slice 1 6 1 0 (lfZLaw (subLaw zs off n) (rvOLaw (subLaw zs off n) (rnOLaw (subLaw zs off n) 0 0 4) (rnELaw (subLaw zs off n) 0 0 4)) (rvELaw
 (subLaw zs off n) (rnOLaw (subLaw zs off n) 0 0 4) (rnELaw (subLaw zs off n) 0 0 4))).length none, .slice 1 7 1 0 (rvVLaw (subLaw zs off n) (lfOLaw (subLaw zs off n) (rvOLaw (subLaw zs off n) (rnOLaw (subLaw zs off n) 0 0 4) (rnELaw (subLaw zs off n) 0 0 4)) (rvELaw (subLaw zs off n) (rnOLaw (subLaw zs off n) 0 0 4) (rnELaw (subLaw zs off n) 0 0 4))) (lfELaw (subLaw zs off n) (rvOLaw (subLaw zs off
 n) (rnOLaw (subLaw zs off n) 0 0 4) (rnELaw (subLaw zs off n) 0 0 4)) (rvELaw (subLaw zs off n) (rnOLaw (subLaw zs off n) 0 0 4) (rnELaw (subLaw zs off n) 0 0 4)))).length none], .int .i64 0] := by kernel_rfl
theorem nR29c_tab {zs : List Int} {g : Nat} {off : Nat} {n : Nat} {cp : Option Nat} {ow : Bool} : (nR29c zs g off n cp ow).tab = [some ⟨.ints .u8 zs, g, ow, 5⟩, some ⟨.ints .u8 (rvVLaw (subLaw zs off n) (rnOLaw (subLaw zs off n) 0 0 4) (rnELaw (subLaw zs off n) 0 0 4)), 1, true, 5⟩, some ⟨.ints .u8 (lfALaw (subLaw zs off n) (rvOLaw (subLaw zs off n) (rnOLaw (subLaw zs off n) 0 0 4) (rnELaw (subLaw
 zs off n) 0 0 4)) (rvELaw (subLaw zs off n) (rnOLaw (subLaw zs off n) 0 0 4) (rnELaw (subLaw zs off n) 0 0 4))), 1, true, 5⟩, some ⟨.ints .u8 (lfBLaw (subLaw zs off n) (rvOLaw (subLaw zs off n) (rnOLaw (subLaw zs off n) 0 0 4) (rnELaw (subLaw zs off n) 0 0 4)) (rvELaw (subLaw zs off n) (rnOLaw (subLaw zs off n) 0 0 4) (rnELaw (subLaw zs off n) 0 0 4))), 1, true, 5⟩, some ⟨.ints .u8 (lfCLaw (subLaw
 zs off n) (rvOLaw (subLaw zs off n) (rnOLaw (subLaw zs off n) 0 0 4) (rnELaw (subLaw zs off n) 0 0 4)) (rvELaw (subLaw zs off n) (rnOLaw (subLaw zs off n) 0 0 4) (rnELaw (subLaw zs off n) 0 0 4))), 1, true, 5⟩, some ⟨.ints .u8 (lfDLaw (subLaw zs off n) (rvOLaw (subLaw zs off n) (rnOLaw (subLaw zs off n) 0 0 4) (rnELaw (subLaw zs off n) 0 0 4)) (rvELaw (subLaw zs off n) (rnOLaw (subLaw zs off n) 0 0
 4) (rnELaw (subLaw zs off n) 0 0 4))), 1, true, 5⟩, some ⟨.ints .u8 (lfZLaw (subLaw zs off n) (rvOLaw (subLaw zs off n) (rnOLaw (subLaw zs off n) 0 0 4) (rnELaw (subLaw zs off n) 0 0 4)) (rvELaw (subLaw zs off n) (rnOLaw (subLaw zs off n) 0 0 4) (rnELaw (subLaw zs off n) 0 0 4))), 1, true, 5⟩, some ⟨.ints .u8 (rvVLaw (subLaw zs off n) (lfOLaw (subLaw zs off n) (rvOLaw (subLaw zs off n) (rnOLaw
 (subLaw zs off n) 0 0 4) (rnELaw (subLaw zs off n) 0 0 4)) (rvELaw (subLaw zs off n) (rnOLaw (subLaw zs off n) 0 0 4) (rnELaw (subLaw zs off n) 0 0 4))) (lfELaw (subLaw zs off n) (rvOLaw (subLaw zs off n) (rnOLaw (subLaw zs off n) 0 0 4) (rnELaw (subLaw zs off n) 0 0 4)) (rvELaw (subLaw zs off n) (rnOLaw (subLaw zs off n) 0 0 4) (rnELaw (subLaw zs off n) 0 0 4)))), 1, true, 5⟩] := by kernel_rfl
noncomputable def nS62d : Summary := sumI modeO eG1p f62 [] 400 [some false, some false, some false] [false, false, false, false, false, false, false, true]
theorem nS62d_ok : SumOk prog (fun _ => none) 62 nS62d := sumI_ok eG1p_ok hmN (fn := f62) (by kernel_rfl) (by kernel_rfl) [] FnOrc.nil 400 [some false, some false, some false] [false, false, false, false, false, false, false, true]
noncomputable def eG4d : Env := eN0 [(27, nS27), (42, S23r), (44, nS44), (52, S29r), (54, S25r), (62, nS62d)]
theorem eG4d_ok : EnvOk eG4d := envOf_ok tysN_ok (SumsOk.cons (fn := f27) nS27_ok (by kernel_rfl) (by kernel_rfl) (by kernel_rfl) (SumsOk.cons (fn := f42) S23r_ok (by kernel_rfl) (by kernel_rfl) (by kernel_rfl) (SumsOk.cons (fn := f44) nS44_ok (by kernel_rfl) (by kernel_rfl) (by kernel_rfl) (SumsOk.cons (fn := f52) S29r_ok (by kernel_rfl) (by kernel_rfl) (by kernel_rfl) (SumsOk.cons (fn := f54) S25r_ok (by kernel_rfl) (by kernel_rfl) (by kernel_rfl) (SumsOk.cons (fn := f62) nS62d_ok (by kernel_rfl) (by kernel_rfl) (by kernel_rfl) trivial))))))
noncomputable def nR29d (zs : List Int) (g : Nat) (off : Nat) (n : Nat) (cp : Option Nat) (ow : Bool) : Res := resG 1 [0] (runF eG4d f29 [] 400 [.slice 1 0 g off n cp] [some ⟨.ints .u8 zs, g, ow, 5⟩] [])
theorem nR29d_ok {zs : List Int} {g : Nat} {off : Nat} {n : Nat} {cp : Option Nat} {ow : Bool} (h : allP [.eqN g g, .leN (off + n) zs.length, .leN n 140737488355000, .eqN n ((subLaw zs off n).length - 0), .leN 0 (subLaw zs off n).length, .p (ByLaw (subLaw zs off n)), .eqN ((subLaw zs off n).length - rnOLaw (subLaw zs off n) 0 0 4) ((subLaw zs off n).length - rnOLaw (subLaw zs off n) 0 0 4), .leN
 (rnOLaw (subLaw zs off n) 0 0 4) (subLaw zs off n).length, .p (ByLaw (subLaw zs off n)), .leN (subLaw zs off n).length 140737488355000, .eqN ((subLaw zs off n).length - rvOLaw (subLaw zs off n) (rnOLaw (subLaw zs off n) 0 0 4) (rnELaw (subLaw zs off n) 0 0 4)) ((subLaw zs off n).length - rvOLaw (subLaw zs off n) (rnOLaw (subLaw zs off n) 0 0 4) (rnELaw (subLaw zs off n) 0 0 4)), .leN (rvOLaw
 (subLaw zs off n) (rnOLaw (subLaw zs off n) 0 0 4) (rnELaw (subLaw zs off n) 0 0 4)) (subLaw zs off n).length, .p (ByLaw (subLaw zs off n)), .leN (subLaw zs off n).length 140737488355000, .eqN ((subLaw zs off n).length - lfOLaw (subLaw zs off n) (rvOLaw (subLaw zs off n) (rnOLaw (subLaw zs off n) 0 0 4) (rnELaw (subLaw zs off n) 0 0 4)) (rvELaw (subLaw zs off n) (rnOLaw (subLaw zs off n) 0 0 4)
 (rnELaw (subLaw zs off n) 0 0 4))) ((subLaw zs off n).length - lfOLaw (subLaw zs off n) (rvOLaw (subLaw zs off n) (rnOLaw (subLaw zs off n) 0 0 4) (rnELaw (subLaw zs off n) 0 0 4)) (rvELaw (subLaw zs off n) (rnOLaw (subLaw zs off n) 0 0 4) (rnELaw (subLaw zs off n) 0 0 4))), .leN (lfOLaw (subLaw zs off n) (rvOLaw (subLaw zs off n) (rnOLaw (subLaw zs off n) 0 0 4) (rnELaw (subLaw zs off n) 0 0 4))
 (rvELaw (subLaw zs off n) (rnOLaw (subLaw zs off n) 0 0 4) (rnELaw (subLaw zs off n) 0 0 4))) (subLaw zs off n).length, .p (ByLaw (subLaw zs off n)), .leN (subLaw zs off n).length 140737488355000, .eqN g g, .eqN (rvVLaw (subLaw zs off n) (rnOLaw (subLaw zs off n) 0 0 4) (rnELaw (subLaw zs off n) 0 0 4)).length (rvVLaw (subLaw zs off n) (rnOLaw (subLaw zs off n) 0 0 4) (rnELaw (subLaw zs off n) 0 0
 4)).length, .eqN (lfALaw (subLaw zs off n) (rvOLaw (subLaw zs off n) (rnOLaw (subLaw zs off n) 0 0 4) (rnELaw (subLaw zs off n) 0 0 4)) (rvELaw (subLaw zs off n) (rnOLaw (subLaw zs off n) 0 0 4) (rnELaw (subLaw zs off n) 0 0 4))).length (lfALaw (subLaw zs off n) (rvOLaw (subLaw zs off n) (rnOLaw (subLaw zs off n) 0 0 4) (rnELaw (subLaw zs off n) 0 0 4)) (rvELaw (subLaw zs off n) (rnOLaw (subLaw zs
 off n) 0 0 4) (rnELaw (subLaw zs off n) 0 0 4))).length, .eqN (lfBLaw (subLaw zs off n) (rvOLaw (subLaw zs off n) (rnOLaw (subLaw zs off n) 0 0 4) (rnELaw (subLaw zs off n) 0 0 4)) (rvELaw (subLaw zs off n) (rnOLaw (subLaw zs off n) 0 0 4) (rnELaw (subLaw zs off n) 0 0 4))).length (lfBLaw (subLaw zs off n) (rvOLaw (subLaw zs off n) (rnOLaw (subLaw zs off n) 0 0 4) (rnELaw (subLaw zs off n) 0 0 4))
 (rvELaw (subLaw zs off n) (rnOLaw (subLaw zs off n) 0 0 4) (rnELaw (subLaw zs off n) 0 0 4))).length, .eqN (lfCLaw (subLaw zs off n) (rvOLaw (subLaw zs off n) (rnOLaw (subLaw zs off n) 0 0 4) (rnELaw (subLaw zs off n) 0 0 4)) (rvELaw (subLaw zs off n) (rnOLaw (subLaw zs off n) 0 0 4) (rnELaw (subLaw zs off n) 0 0 4))).length (lfCLaw (subLaw zs off n) (rvOLaw (subLaw zs off n) (rnOLaw (subLaw zs off
 n) 0 0 4) (rnELaw (subLaw zs off n) 0 0 4)) (rvELaw (subLaw zs off n) (rnOLaw (subLaw zs off n) 0 0 4) (rnELaw (subLaw zs off n) 0 0 4))).length, .eqN (lfDLaw (subLaw zs off n) (rvOLaw (subLaw zs off n) (rnOLaw (subLaw zs off n) 0 0 4) (rnELaw (subLaw zs off n) 0 0 4)) (rvELaw (subLaw zs off n) (rnOLaw (subLaw zs off n) 0 0 4) (rnELaw (subLaw zs off n) 0 0 4))).length (lfDLaw (subLaw zs off n)
 (rvOLaw (subLaw zs off n) (rnOLaw (subLaw zs off n) 0 0 4) (rnELaw (subLaw zs off n) 0 0 4)) (rvELaw (subLaw zs off n) (rnOLaw (subLaw zs off n) 0 0 4) (rnELaw (subLaw zs off n) 0 0 4))).length, .eqN (lfZLaw (subLaw zs off n) (rvOLaw (subLaw zs off n) (rnOLaw (subLaw zs off n) 0 0 4) (rnELaw (subLaw zs off n) 0 0 4)) (rvELaw (subLaw zs off n) (rnOLaw (subLaw zs off n) 0 0 4) (rnELaw (subLaw zs off
 n) 0 0 4))).length (lfZLaw (subLaw zs off n) (rvOLaw (subLaw zs off n) (rnOLaw (subLaw zs off n) 0 0 4) (rnELaw (subLaw zs off n) 0 0 4)) (rvELaw (subLaw zs off n) (rnOLaw (subLaw zs off n) 0 0 4) (rnELaw (subLaw zs off n) 0 0 4))).length, .eqN (rvVLaw (subLaw zs off n) (lfOLaw (subLaw zs off n) (rvOLaw (subLaw zs off n) (rnOLaw (subLaw zs off n) 0 0 4) (rnELaw (subLaw zs off n) 0 0 4)) (rvELaw
 (subLaw zs off n) (rnOLaw (subLaw zs off n) 0 0 4) (rnELaw (subLaw zs off n) 0 0 4))) (lfELaw (subLaw zs off n) (rvOLaw (subLaw zs off n) (rnOLaw (subLaw zs off n) 0 0 4) (rnELaw (subLaw zs off n) 0 0 4)) (rvELaw (subLaw zs off n) (rnOLaw (subLaw zs off n) 0 0 4) (rnELaw (subLaw zs off n) 0 0 4)))).length (rvVLaw (subLaw zs off n) (lfOLaw (subLaw zs off n) (rvOLaw (subLaw zs off n) (rnOLaw (subLaw
 zs off n) 0 0 4) (rnELaw (subLaw zs off n) 0 0 4)) (rvELaw (subLaw zs off n) (rnOLaw (subLaw zs off n) 0 0 4) (rnELaw (subLaw zs off n) 0 0 4))) (lfELaw (subLaw zs off n) (rvOLaw (subLaw zs off n) (rnOLaw (subLaw zs off n) 0 0 4) (rnELaw (subLaw zs off n) 0 0 4)) (rvELaw (subLaw zs off n) (rnOLaw (subLaw zs off n) 0 0 4) (rnELaw (subLaw zs off n) 0 0 4)))).length, .eqN ((subLaw zs off n).length -
 rvOLaw (subLaw zs off n) (lfOLaw (subLaw zs off n) (rvOLaw (subLaw zs off n) (rnOLaw (subLaw zs off n) 0 0 4) (rnELaw (subLaw zs off n) 0 0 4)) (rvELaw (subLaw zs off n) (rnOLaw (subLaw zs off n) 0 0 4) (rnELaw (subLaw zs off n) 0 0 4))) (lfELaw (subLaw zs off n) (rvOLaw (subLaw zs off n) (rnOLaw (subLaw zs off n) 0 0 4) (rnELaw (subLaw zs off n) 0 0 4)) (rvELaw (subLaw zs off n) (rnOLaw (subLaw zs
 off n) 0 0 4) (rnELaw (subLaw zs off n) 0 0 4)))) ((subLaw zs off n).length - rvOLaw (subLaw zs off n) (lfOLaw (subLaw zs off n) (rvOLaw (subLaw zs off n) (rnOLaw (subLaw zs off n) 0 0 4) (rnELaw (subLaw zs off n) 0 0 4)) (rvELaw (subLaw zs off n) (rnOLaw (subLaw zs off n) 0 0 4) (rnELaw (subLaw zs off n) 0 0 4))) (lfELaw (subLaw zs off n) (rvOLaw (subLaw zs off n) (rnOLaw (subLaw zs off n) 0 0 4)
 (rnELaw (subLaw zs off n) 0 0 4)) (rvELaw (subLaw zs off n) (rnOLaw (subLaw zs off n) 0 0 4) (rnELaw (subLaw zs off n) 0 0 4)))), .p ((reLaw (subLaw zs off n) (rvOLaw (subLaw zs off n) (lfOLaw (subLaw zs off n) (rvOLaw (subLaw zs off n) (rnOLaw (subLaw zs off n) 0 0 4) (rnELaw (subLaw zs off n) 0 0 4)) (rvELaw (subLaw zs off n) (rnOLaw (subLaw zs off n) 0 0 4) (rnELaw (subLaw zs off n) 0 0 4)))
 (lfELaw (subLaw zs off n) (rvOLaw (subLaw zs off n) (rnOLaw (subLaw zs off n) 0 0 4) (rnELaw (subLaw zs off n) 0 0 4)) (rvELaw (subLaw zs off n) (rnOLaw (subLaw zs off n) 0 0 4) (rnELaw (subLaw zs off n) 0 0 4)))) (rvELaw (subLaw zs off n) (lfOLaw (subLaw zs off n) (rvOLaw (subLaw zs off n) (rnOLaw (subLaw zs off n) 0 0 4) (rnELaw (subLaw zs off n) 0 0 4)) (rvELaw (subLaw zs off n) (rnOLaw (subLaw
 zs off n) 0 0 4) (rnELaw (subLaw zs off n) 0 0 4))) (lfELaw (subLaw zs off n) (rvOLaw (subLaw zs off n) (rnOLaw (subLaw zs off n) 0 0 4) (rnELaw (subLaw zs off n) 0 0 4)) (rvELaw (subLaw zs off n) (rnOLaw (subLaw zs off n) 0 0 4) (rnELaw (subLaw zs off n) 0 0 4)))) != 0) = false), .p ((pkELaw (rvVLaw (subLaw zs off n) (rnOLaw (subLaw zs off n) 0 0 4) (rnELaw (subLaw zs off n) 0 0 4)) (lfALaw
 (subLaw zs off n) (rvOLaw (subLaw zs off n) (rnOLaw (subLaw zs off n) 0 0 4) (rnELaw (subLaw zs off n) 0 0 4)) (rvELaw (subLaw zs off n) (rnOLaw (subLaw zs off n) 0 0 4) (rnELaw (subLaw zs off n) 0 0 4))) (lfBLaw (subLaw zs off n) (rvOLaw (subLaw zs off n) (rnOLaw (subLaw zs off n) 0 0 4) (rnELaw (subLaw zs off n) 0 0 4)) (rvELaw (subLaw zs off n) (rnOLaw (subLaw zs off n) 0 0 4) (rnELaw (subLaw zs
 off n) 0 0 4))) (lfCLaw (subLaw zs off n) (rvOLaw (subLaw zs off n) (rnOLaw (subLaw zs off n) 0 0 4) (rnELaw (subLaw zs off n) 0 0 4)) (rvELaw (subLaw zs off n) (rnOLaw (subLaw zs off n) 0 0 4) (rnELaw (subLaw zs off n) 0 0 4))) (lfSLaw (subLaw zs off n) (rvOLaw (subLaw zs off n) (rnOLaw (subLaw zs off n) 0 0 4) (rnELaw (subLaw zs off n) 0 0 4)) (rvELaw (subLaw zs off n) (rnOLaw (subLaw zs off n) 0
 0 4) (rnELaw (subLaw zs off n) 0 0 4))) (lfDLaw (subLaw zs off n) (rvOLaw (subLaw zs off n) (rnOLaw (subLaw zs off n) 0 0 4) (rnELaw (subLaw zs off n) 0 0 4)) (rvELaw (subLaw zs off n) (rnOLaw (subLaw zs off n) 0 0 4) (rnELaw (subLaw zs off n) 0 0 4))) (lfZLaw (subLaw zs off n) (rvOLaw (subLaw zs off n) (rnOLaw (subLaw zs off n) 0 0 4) (rnELaw (subLaw zs off n) 0 0 4)) (rvELaw (subLaw zs off n)
 (rnOLaw (subLaw zs off n) 0 0 4) (rnELaw (subLaw zs off n) 0 0 4))) (rvVLaw (subLaw zs off n) (lfOLaw (subLaw zs off n) (rvOLaw (subLaw zs off n) (rnOLaw (subLaw zs off n) 0 0 4) (rnELaw (subLaw zs off n) 0 0 4)) (rvELaw (subLaw zs off n) (rnOLaw (subLaw zs off n) 0 0 4) (rnELaw (subLaw zs off n) 0 0 4))) (lfELaw (subLaw zs off n) (rvOLaw (subLaw zs off n) (rnOLaw (subLaw zs off n) 0 0 4) (rnELaw
 (subLaw zs off n) 0 0 4)) (rvELaw (subLaw zs off n) (rnOLaw (subLaw zs off n) 0 0 4) (rnELaw (subLaw zs off n) 0 0 4)))) != 0) = false), .eqN (pkGLaw (rvVLaw (subLaw zs off n) (rnOLaw (subLaw zs off n) 0 0 4) (rnELaw (subLaw zs off n) 0 0 4)) (lfALaw (subLaw zs off n) (rvOLaw (subLaw zs off n) (rnOLaw (subLaw zs off n) 0 0 4) (rnELaw (subLaw zs off n) 0 0 4)) (rvELaw (subLaw zs off n) (rnOLaw
 (subLaw zs off n) 0 0 4) (rnELaw (subLaw zs off n) 0 0 4))) (lfBLaw (subLaw zs off n) (rvOLaw (subLaw zs off n) (rnOLaw (subLaw zs off n) 0 0 4) (rnELaw (subLaw zs off n) 0 0 4)) (rvELaw (subLaw zs off n) (rnOLaw (subLaw zs off n) 0 0 4) (rnELaw (subLaw zs off n) 0 0 4))) (lfCLaw (subLaw zs off n) (rvOLaw (subLaw zs off n) (rnOLaw (subLaw zs off n) 0 0 4) (rnELaw (subLaw zs off n) 0 0 4)) (rvELaw
 (subLaw zs off n) (rnOLaw (subLaw zs off n) 0 0 4) (rnELaw (subLaw zs off n) 0 0 4))) (lfSLaw (subLaw zs off n) (rvOLaw (subLaw zs off n) (rnOLaw (subLaw zs off n) 0 0 4) (rnELaw (subLaw zs off n) 0 0 4)) (rvELaw (subLaw zs off n) (rnOLaw (subLaw zs off n) 0 0 4) (rnELaw (subLaw zs off n) 0 0 4))) (lfDLaw (subLaw zs off n) (rvOLaw (subLaw zs off n) (rnOLaw (subLaw zs off n) 0 0 4) (rnELaw (subLaw
 zs off n) 0 0 4)) (rvELaw (subLaw zs off n) (rnOLaw (subLaw zs off n) 0 0 4) (rnELaw (subLaw zs off n) 0 0 4))) (lfZLaw (subLaw zs off n) (rvOLaw (subLaw zs off n) (rnOLaw (subLaw zs off n) 0 0 4) (rnELaw (subLaw zs off n) 0 0 4)) (rvELaw (subLaw zs off n) (rnOLaw (subLaw zs off n) 0 0 4) (rnELaw (subLaw zs off n) 0 0 4))) (rvVLaw (subLaw zs off n) (lfOLaw (subLaw zs off n) (rvOLaw (subLaw zs off
 n) (rnOLaw (subLaw zs off n) 0 0 4) (rnELaw (subLaw zs off n) 0 0 4)) (rvELaw (subLaw zs off n) (rnOLaw (subLaw zs off n) 0 0 4) (rnELaw (subLaw zs off n) 0 0 4))) (lfELaw (subLaw zs off n) (rvOLaw (subLaw zs off n) (rnOLaw (subLaw zs off n) 0 0 4) (rnELaw (subLaw zs off n) 0 0 4)) (rvELaw (subLaw zs off n) (rnOLaw (subLaw zs off n) 0 0 4) (rnELaw (subLaw zs off n) 0 0 4))))) (pkGLaw (rvVLaw
 (subLaw zs off n) (rnOLaw (subLaw zs off n) 0 0 4) (rnELaw (subLaw zs off n) 0 0 4)) (lfALaw (subLaw zs off n) (rvOLaw (subLaw zs off n) (rnOLaw (subLaw zs off n) 0 0 4) (rnELaw (subLaw zs off n) 0 0 4)) (rvELaw (subLaw zs off n) (rnOLaw (subLaw zs off n) 0 0 4) (rnELaw (subLaw zs off n) 0 0 4))) (lfBLaw (subLaw zs off n) (rvOLaw (subLaw zs off n) (rnOLaw (subLaw zs off n) 0 0 4) (rnELaw (subLaw zs
 off n) 0 0 4)) (rvELaw (subLaw zs off n) (rnOLaw (subLaw zs off n) 0 0 4) (rnELaw (subLaw zs off n) 0 0 4))) (lfCLaw (subLaw zs off n) (rvOLaw (subLaw zs off n) (rnOLaw (subLaw zs off n) 0 0 4) (rnELaw (subLaw zs off n) 0 0 4)) (rvELaw (subLaw zs off n) (rnOLaw (subLaw zs off n) 0 0 4) (rnELaw (subLaw zs off n) 0 0 4))) (lfSLaw (subLaw zs off n) (rvOLaw (subLaw zs off n) (rnOLaw (subLaw zs off n) 0
 0 4) (rnELaw (subLaw zs off n) 0 0 4)) (rvELaw (subLaw zs off n) (rnOLaw (subLaw zs off n) 0 0 4) (rnELaw (subLaw zs off n) 0 0 4))) (lfDLaw (subLaw zs off n) (rvOLaw (subLaw zs off n) (rnOLaw (subLaw zs off n) 0 0 4) (rnELaw (subLaw zs off n) 0 0 4)) (rvELaw (subLaw zs off n) (rnOLaw (subLaw zs off n) 0 0 4) (rnELaw (subLaw zs off n) 0 0 4))) (lfZLaw (subLaw zs off n) (rvOLaw (subLaw zs off n)
 (rnOLaw (subLaw zs off n) 0 0 4) (rnELaw (subLaw zs off n) 0 0 4)) (rvELaw (subLaw zs off n) (rnOLaw (subLaw zs off n) 0 0 4) (rnELaw (subLaw zs off n) 0 0 4))) (rvVLaw (subLaw zs off n) (lfOLaw (subLaw zs off n) (rvOLaw (subLaw zs off n) (rnOLaw (subLaw zs off n) 0 0 4) (rnELaw (subLaw zs off n) 0 0 4)) (rvELaw (subLaw zs off n) (rnOLaw (subLaw zs off n) 0 0 4) (rnELaw (subLaw zs off n) 0 0 4)))
 (lfELaw (subLaw zs off n) (rvOLaw (subLaw zs off n) (rnOLaw (subLaw zs off n) 0 0 4) (rnELaw (subLaw zs off n) 0 0 4)) (rvELaw (subLaw zs off n) (rnOLaw (subLaw zs off n) 0 0 4) (rnELaw (subLaw zs off n) 0 0 4))))), .eqN g g, .eqN (pkGLaw (rvVLaw (subLaw zs off n) (rnOLaw (subLaw zs off n) 0 0 4) (rnELaw (subLaw zs off n) 0 0 4)) (lfALaw (subLaw zs off n) (rvOLaw (subLaw zs off n) (rnOLaw (subLaw
 zs off n) 0 0 4) (rnELaw (subLaw zs off n) 0 0 4)) (rvELaw (subLaw zs off n) (rnOLaw (subLaw zs off n) 0 0 4) (rnELaw (subLaw zs off n) 0 0 4))) (lfBLaw (subLaw zs off n) (rvOLaw (subLaw zs off n) (rnOLaw (subLaw zs off n) 0 0 4) (rnELaw (subLaw zs off n) 0 0 4)) (rvELaw (subLaw zs off n) (rnOLaw (subLaw zs off n) 0 0 4) (rnELaw (subLaw zs off n) 0 0 4))) (lfCLaw (subLaw zs off n) (rvOLaw (subLaw
 zs off n) (rnOLaw (subLaw zs off n) 0 0 4) (rnELaw (subLaw zs off n) 0 0 4)) (rvELaw (subLaw zs off n) (rnOLaw (subLaw zs off n) 0 0 4) (rnELaw (subLaw zs off n) 0 0 4))) (lfSLaw (subLaw zs off n) (rvOLaw (subLaw zs off n) (rnOLaw (subLaw zs off n) 0 0 4) (rnELaw (subLaw zs off n) 0 0 4)) (rvELaw (subLaw zs off n) (rnOLaw (subLaw zs off n) 0 0 4) (rnELaw (subLaw zs off n) 0 0 4))) (lfDLaw (subLaw
 zs off n) (rvOLaw (subLaw zs off n) (rnOLaw (subLaw zs off n) 0 0 4) (rnELaw (subLaw zs off n) 0 0 4)) (rvELaw (subLaw zs off n) (rnOLaw (subLaw zs off n) 0 0 4) (rnELaw (subLaw zs off n) 0 0 4))) (lfZLaw (subLaw zs off n) (rvOLaw (subLaw zs off n) (rnOLaw (subLaw zs off n) 0 0 4) (rnELaw (subLaw zs off n) 0 0 4)) (rvELaw (subLaw zs off n) (rnOLaw (subLaw zs off n) 0 0 4) (rnELaw (subLaw zs off n)
 0 0 4))) (rvVLaw (subLaw zs off n) (lfOLaw (subLaw zs off n) (rvOLaw (subLaw zs off n) (rnOLaw (subLaw zs off n) 0 0 4) (rnELaw (subLaw zs off n) 0 0 4)) (rvELaw (subLaw zs off n) (rnOLaw (subLaw zs off n) 0 0 4) (rnELaw (subLaw zs off n) 0 0 4))) (lfELaw (subLaw zs off n) (rvOLaw (subLaw zs off n) (rnOLaw (subLaw zs off n) 0 0 4) (rnELaw (subLaw zs off n) 0 0 4)) (rvELaw (subLaw zs off n) (rnOLaw
 (subLaw zs off n) 0 0 4) (rnELaw (subLaw zs off n) 0 0 4))))) (pkGLaw (rvVLaw (subLaw zs off n) (rnOLaw (subLaw zs off n) 0 0 4) (rnELaw (subLaw zs off n) 0 0 4)) (lfALaw (subLaw zs off n) (rvOLaw (subLaw zs off n) (rnOLaw (subLaw zs off n) 0 0 4) (rnELaw (subLaw zs off n) 0 0 4)) (rvELaw (subLaw zs off n) (rnOLaw (subLaw zs off n) 0 0 4) (rnELaw (subLaw zs off n) 0 0 4))) (lfBLaw (subLaw zs off n)
 (rvOLaw (subLaw zs off n) (rnOLaw (subLaw zs off n) 0 0 4) (rnELaw (subLaw zs off n) 0 0 4)) (rvELaw (subLaw zs off n) (rnOLaw (subLaw zs off n) 0 0 4) (rnELaw (subLaw zs off n) 0 0 4))) (lfCLaw (subLaw zs off n) (rvOLaw (subLaw zs off n) (rnOLaw (subLaw zs off n) 0 0 4) (rnELaw (subLaw zs off n) 0 0 4)) (rvELaw (subLaw zs off n) (rnOLaw (subLaw zs off n) 0 0 4) (rnELaw (subLaw zs off n) 0 0 4)))
 (lfSLaw (subLaw zs off n) (rvOLaw (subLaw zs off n) (rnOLaw (subLaw zs off n) 0 0 4) (rnELaw (subLaw zs off n) 0 0 4)) (rvELaw (subLaw zs off n) (rnOLaw (subLaw zs off n) 0 0 4) (rnELaw (subLaw zs off n) 0 0 4))) (lfDLaw (subLaw zs off n) (rvOLaw (subLaw zs off n) (rnOLaw (subLaw zs off n) 0 0 4) (rnELaw (subLaw zs off n) 0 0 4)) (rvELaw (subLaw zs off n) (rnOLaw (subLaw zs off n) 0 0 4) (rnELaw
 (subLaw zs off n) 0 0 4))) (lfZLaw (subLaw zs off n) (rvOLaw (subLaw zs off n) (rnOLaw (subLaw zs off n) 0 0 4) (rnELaw (subLaw zs off n) 0 0 4)) (rvELaw (subLaw zs off n) (rnOLaw (subLaw zs off n) 0 0 4) (rnELaw (subLaw zs off n) 0 0 4))) (rvVLaw (subLaw zs off n) (lfOLaw (subLaw zs off n) (rvOLaw (subLaw zs off n) (rnOLaw (subLaw zs off n) 0 0 4) (rnELaw (subLaw zs off n) 0 0 4)) (rvELaw (subLaw
 zs off n) (rnOLaw (subLaw zs off n) 0 0 4) (rnELaw (subLaw zs off n) 0 0 4))) (lfELaw (subLaw zs off n) (rvOLaw (subLaw zs off n) (rnOLaw (subLaw zs off n) 0 0 4) (rnELaw (subLaw zs off n) 0 0 4)) (rvELaw (subLaw zs off n) (rnOLaw (subLaw zs off n) 0 0 4) (rnELaw (subLaw zs off n) 0 0 4))))), .leN (0 + (pkBLaw (rvVLaw (subLaw zs off n) (rnOLaw (subLaw zs off n) 0 0 4) (rnELaw (subLaw zs off n) 0 0
 4)) (lfALaw (subLaw zs off n) (rvOLaw (subLaw zs off n) (rnOLaw (subLaw zs off n) 0 0 4) (rnELaw (subLaw zs off n) 0 0 4)) (rvELaw (subLaw zs off n) (rnOLaw (subLaw zs off n) 0 0 4) (rnELaw (subLaw zs off n) 0 0 4))) (lfBLaw (subLaw zs off n) (rvOLaw (subLaw zs off n) (rnOLaw (subLaw zs off n) 0 0 4) (rnELaw (subLaw zs off n) 0 0 4)) (rvELaw (subLaw zs off n) (rnOLaw (subLaw zs off n) 0 0 4)
 (rnELaw (subLaw zs off n) 0 0 4))) (lfCLaw (subLaw zs off n) (rvOLaw (subLaw zs off n) (rnOLaw (subLaw zs off n) 0 0 4) (rnELaw (subLaw zs off n) 0 0 4)) (rvELaw (subLaw zs off n) (rnOLaw (subLaw zs off n) 0 0 4) (rnELaw (subLaw zs off n) 0 0 4))) (lfSLaw (subLaw zs off n) (rvOLaw (subLaw zs off n) (rnOLaw (subLaw zs off n) 0 0 4) (rnELaw (subLaw zs off n) 0 0 4)) (rvELaw (subLaw zs off n) (rnOLaw
 (subLaw zs off n) 0 0 4) (rnELaw (subLaw zs off n) 0 0 4))) (lfDLaw (subLaw zs off n) (rvOLaw (subLaw zs off n) (rnOLaw (subLaw zs off n) 0 0 4) (rnELaw (subLaw zs off n) 0 0 4)) (rvELaw (subLaw zs off n) (rnOLaw (subLaw zs off n) 0 0 4) (rnELaw (subLaw zs off n) 0 0 4))) (lfZLaw (subLaw zs off n) (rvOLaw (subLaw zs off n) (rnOLaw (subLaw zs off n) 0 0 4) (rnELaw (subLaw zs off n) 0 0 4)) (rvELaw
 (subLaw zs off n) (rnOLaw (subLaw zs off n) 0 0 4) (rnELaw (subLaw zs off n) 0 0 4))) (rvVLaw (subLaw zs off n) (lfOLaw (subLaw zs off n) (rvOLaw (subLaw zs off n) (rnOLaw (subLaw zs off n) 0 0 4) (rnELaw (subLaw zs off n) 0 0 4)) (rvELaw (subLaw zs off n) (rnOLaw (subLaw zs off n) 0 0 4) (rnELaw (subLaw zs off n) 0 0 4))) (lfELaw (subLaw zs off n) (rvOLaw (subLaw zs off n) (rnOLaw (subLaw zs off
 n) 0 0 4) (rnELaw (subLaw zs off n) 0 0 4)) (rvELaw (subLaw zs off n) (rnOLaw (subLaw zs off n) 0 0 4) (rnELaw (subLaw zs off n) 0 0 4))))).length) (pkBLaw (rvVLaw (subLaw zs off n) (rnOLaw (subLaw zs off n) 0 0 4) (rnELaw (subLaw zs off n) 0 0 4)) (lfALaw (subLaw zs off n) (rvOLaw (subLaw zs off n) (rnOLaw (subLaw zs off n) 0 0 4) (rnELaw (subLaw zs off n) 0 0 4)) (rvELaw (subLaw zs off n) (rnOLaw
 (subLaw zs off n) 0 0 4) (rnELaw (subLaw zs off n) 0 0 4))) (lfBLaw (subLaw zs off n) (rvOLaw (subLaw zs off n) (rnOLaw (subLaw zs off n) 0 0 4) (rnELaw (subLaw zs off n) 0 0 4)) (rvELaw (subLaw zs off n) (rnOLaw (subLaw zs off n) 0 0 4) (rnELaw (subLaw zs off n) 0 0 4))) (lfCLaw (subLaw zs off n) (rvOLaw (subLaw zs off n) (rnOLaw (subLaw zs off n) 0 0 4) (rnELaw (subLaw zs off n) 0 0 4)) (rvELaw
 (subLaw zs off n) (rnOLaw (subLaw zs off n) 0 0 4) (rnELaw (subLaw zs off n) 0 0 4))) (lfSLaw (subLaw zs off n) (rvOLaw (subLaw zs off n) (rnOLaw (subLaw zs off n) 0 0 4) (rnELaw (subLaw zs off n) 0 0 4)) (rvELaw (subLaw zs off n) (rnOLaw (subLaw zs off n) 0 0 4) (rnELaw (subLaw zs off n) 0 0 4))) (lfDLaw (subLaw zs off n) (rvOLaw (subLaw zs off n) (rnOLaw (subLaw zs off n) 0 0 4) (rnELaw (subLaw
 zs off n) 0 0 4)) (rvELaw (subLaw zs off n) (rnOLaw (subLaw zs off n) 0 0 4) (rnELaw (subLaw zs off n) 0 0 4))) (lfZLaw (subLaw zs off n) (rvOLaw (subLaw zs off n) (rnOLaw (subLaw zs off n) 0 0 4) (rnELaw (subLaw zs off n) 0 0 4)) (rvELaw (subLaw zs off n) (rnOLaw (subLaw zs off n) 0 0 4) (rnELaw (subLaw zs off n) 0 0 4))) (rvVLaw (subLaw zs off n) (lfOLaw (subLaw zs off n) (rvOLaw (subLaw zs off
 n) (rnOLaw (subLaw zs off n) 0 0 4) (rnELaw (subLaw zs off n) 0 0 4)) (rvELaw (subLaw zs off n) (rnOLaw (subLaw zs off n) 0 0 4) (rnELaw (subLaw zs off n) 0 0 4))) (lfELaw (subLaw zs off n) (rvOLaw (subLaw zs off n) (rnOLaw (subLaw zs off n) 0 0 4) (rnELaw (subLaw zs off n) 0 0 4)) (rvELaw (subLaw zs off n) (rnOLaw (subLaw zs off n) 0 0 4) (rnELaw (subLaw zs off n) 0 0 4))))).length, .eqN g g, .leN
 (off + n) zs.length, .p ((List.map byteOf (List.take (pkBLaw (rvVLaw (subLaw zs off n) (rnOLaw (subLaw zs off n) 0 0 4) (rnELaw (subLaw zs off n) 0 0 4)) (lfALaw (subLaw zs off n) (rvOLaw (subLaw zs off n) (rnOLaw (subLaw zs off n) 0 0 4) (rnELaw (subLaw zs off n) 0 0 4)) (rvELaw (subLaw zs off n) (rnOLaw (subLaw zs off n) 0 0 4) (rnELaw (subLaw zs off n) 0 0 4))) (lfBLaw (subLaw zs off n) (rvOLaw
 (subLaw zs off n) (rnOLaw (subLaw zs off n) 0 0 4) (rnELaw (subLaw zs off n) 0 0 4)) (rvELaw (subLaw zs off n) (rnOLaw (subLaw zs off n) 0 0 4) (rnELaw (subLaw zs off n) 0 0 4))) (lfCLaw (subLaw zs off n) (rvOLaw (subLaw zs off n) (rnOLaw (subLaw zs off n) 0 0 4) (rnELaw (subLaw zs off n) 0 0 4)) (rvELaw (subLaw zs off n) (rnOLaw (subLaw zs off n) 0 0 4) (rnELaw (subLaw zs off n) 0 0 4))) (lfSLaw
 (subLaw zs off n) (rvOLaw (subLaw zs off n) (rnOLaw (subLaw zs off n) 0 0 4) (rnELaw (subLaw zs off n) 0 0 4)) (rvELaw (subLaw zs off n) (rnOLaw (subLaw zs off n) 0 0 4) (rnELaw (subLaw zs off n) 0 0 4))) (lfDLaw (subLaw zs off n) (rvOLaw (subLaw zs off n) (rnOLaw (subLaw zs off n) 0 0 4) (rnELaw (subLaw zs off n) 0 0 4)) (rvELaw (subLaw zs off n) (rnOLaw (subLaw zs off n) 0 0 4) (rnELaw (subLaw zs
 off n) 0 0 4))) (lfZLaw (subLaw zs off n) (rvOLaw (subLaw zs off n) (rnOLaw (subLaw zs off n) 0 0 4) (rnELaw (subLaw zs off n) 0 0 4)) (rvELaw (subLaw zs off n) (rnOLaw (subLaw zs off n) 0 0 4) (rnELaw (subLaw zs off n) 0 0 4))) (rvVLaw (subLaw zs off n) (lfOLaw (subLaw zs off n) (rvOLaw (subLaw zs off n) (rnOLaw (subLaw zs off n) 0 0 4) (rnELaw (subLaw zs off n) 0 0 4)) (rvELaw (subLaw zs off n)
 (rnOLaw (subLaw zs off n) 0 0 4) (rnELaw (subLaw zs off n) 0 0 4))) (lfELaw (subLaw zs off n) (rvOLaw (subLaw zs off n) (rnOLaw (subLaw zs off n) 0 0 4) (rnELaw (subLaw zs off n) 0 0 4)) (rvELaw (subLaw zs off n) (rnOLaw (subLaw zs off n) 0 0 4) (rnELaw (subLaw zs off n) 0 0 4))))).length (pkBLaw (rvVLaw (subLaw zs off n) (rnOLaw (subLaw zs off n) 0 0 4) (rnELaw (subLaw zs off n) 0 0 4)) (lfALaw
 (subLaw zs off n) (rvOLaw (subLaw zs off n) (rnOLaw (subLaw zs off n) 0 0 4) (rnELaw (subLaw zs off n) 0 0 4)) (rvELaw (subLaw zs off n) (rnOLaw (subLaw zs off n) 0 0 4) (rnELaw (subLaw zs off n) 0 0 4))) (lfBLaw (subLaw zs off n) (rvOLaw (subLaw zs off n) (rnOLaw (subLaw zs off n) 0 0 4) (rnELaw (subLaw zs off n) 0 0 4)) (rvELaw (subLaw zs off n) (rnOLaw (subLaw zs off n) 0 0 4) (rnELaw (subLaw zs
 off n) 0 0 4))) (lfCLaw (subLaw zs off n) (rvOLaw (subLaw zs off n) (rnOLaw (subLaw zs off n) 0 0 4) (rnELaw (subLaw zs off n) 0 0 4)) (rvELaw (subLaw zs off n) (rnOLaw (subLaw zs off n) 0 0 4) (rnELaw (subLaw zs off n) 0 0 4))) (lfSLaw (subLaw zs off n) (rvOLaw (subLaw zs off n) (rnOLaw (subLaw zs off n) 0 0 4) (rnELaw (subLaw zs off n) 0 0 4)) (rvELaw (subLaw zs off n) (rnOLaw (subLaw zs off n) 0
 0 4) (rnELaw (subLaw zs off n) 0 0 4))) (lfDLaw (subLaw zs off n) (rvOLaw (subLaw zs off n) (rnOLaw (subLaw zs off n) 0 0 4) (rnELaw (subLaw zs off n) 0 0 4)) (rvELaw (subLaw zs off n) (rnOLaw (subLaw zs off n) 0 0 4) (rnELaw (subLaw zs off n) 0 0 4))) (lfZLaw (subLaw zs off n) (rvOLaw (subLaw zs off n) (rnOLaw (subLaw zs off n) 0 0 4) (rnELaw (subLaw zs off n) 0 0 4)) (rvELaw (subLaw zs off n)
 (rnOLaw (subLaw zs off n) 0 0 4) (rnELaw (subLaw zs off n) 0 0 4))) (rvVLaw (subLaw zs off n) (lfOLaw (subLaw zs off n) (rvOLaw (subLaw zs off n) (rnOLaw (subLaw zs off n) 0 0 4) (rnELaw (subLaw zs off n) 0 0 4)) (rvELaw (subLaw zs off n) (rnOLaw (subLaw zs off n) 0 0 4) (rnELaw (subLaw zs off n) 0 0 4))) (lfELaw (subLaw zs off n) (rvOLaw (subLaw zs off n) (rnOLaw (subLaw zs off n) 0 0 4) (rnELaw
 (subLaw zs off n) 0 0 4)) (rvELaw (subLaw zs off n) (rnOLaw (subLaw zs off n) 0 0 4) (rnELaw (subLaw zs off n) 0 0 4)))))) == List.map byteOf (List.take n (dropO off zs))) = false)]) : OkR (nR29d zs g off n cp ow) := OkR.dem (fl := bitsF 98 316893309609736191956555663392) (by kernel_rfl) (by kernel_rfl) (by kernel_rfl) h
theorem nR29d_val {zs : List Int} {g : Nat} {off : Nat} {n : Nat} {cp : Option Nat} {ow : Bool} : (nR29d zs g off n cp ow).val = .tuple [.agg [.nilSlice, .nilSlice, .nilSlice, .nilSlice, .int .i64 0, .nilSlice, .nilSlice, .nilSlice], .int .i64 21] := by kernel_rfl
theorem nR29d_tab {zs : List Int} {g : Nat} {off : Nat} {n : Nat} {cp : Option Nat} {ow : Bool} : (nR29d zs g off n cp ow).tab = [some ⟨.ints .u8 zs, g, ow, 5⟩] := by kernel_rfl
noncomputable def nsm29c (args : List AVal) (T : Tab) (zs : List Int) (g : Nat) (off : Nat) (n : Nat) (cp : Option Nat) (ow : Bool) : Res := ⟨[.tab T [some ⟨.ints .u8 zs, g, ow, 5⟩], .val (.tuple args) (.tuple [.slice 1 0 g off n cp]), .leN (off + n) zs.length, .p (ByLaw (subLaw zs off n)), .leN n 140737488355000], .tuple [.agg [.slice 1 1 1 0 (gkXLaw (subLaw zs off n)).length none, .slice 1 2 1 0 (gkALaw (subLaw zs off n)).length none, .slice 1 3 1 0 (gkBLaw (subLaw zs off n)).length none, .slice 1 4 1 0 (gkCLaw (subLaw zs off n)).length none, .int .i64 (gkSLaw (subLaw zs off n)), .slice 1 5 1 0 (gkDLaw (subLaw zs off n)).length none, .slice 1 6 1 0 (gkZLaw (subLaw zs off n)).length none, .slice 1 7 1 0 (gkYLaw (subLaw zs off n)).length none], .int .i64 (gkELaw (subLaw zs off n))], [some ⟨.ints .u8 zs, g, ow, 5⟩, some ⟨.ints .u8 (gkXLaw (subLaw zs off n)), 1, true, 5⟩, some ⟨.ints .u8 (gkALaw (subLaw zs off n)), 1, true, 5⟩, some ⟨.ints .u8 (gkBLaw (subLaw zs off n)), 1, true, 5⟩, some ⟨.ints .u8 (gkCLaw (subLaw zs off n)), 1, true, 5⟩, some ⟨.ints .u8 (gkDLaw (subLaw zs off n)), 1, true, 5⟩, some ⟨.ints .u8 (gkZLaw (subLaw zs off n)), 1, true, 5⟩, some ⟨.ints .u8 (gkYLaw (subLaw zs off n)), 1, true, 5⟩]⟩
theorem nsm29c_ok {args : List AVal} {T : Tab} {zs : List Int} {g : Nat} {off : Nat} {n : Nat} {cp : Option Nat} {ow : Bool} (h : allP (nsm29c args T zs g off n cp ow).cs) : Small prog (fun _ => none) 29 args T (nsm29c args T zs g off n cp ow).val (nsm29c args T zs g off n cp ow).tab := by
  obtain ⟨hT, hv, h1, h2, h3, _⟩ := h
  simp only [Con.h] at hT hv h1 h2 h3
  injection hv with hv
  subst hT hv
  show Small prog (fun _ => none) 29 [.slice 1 0 g off n cp] [some ⟨.ints .u8 zs, g, ow, 5⟩] (.tuple [.agg [.slice 1 1 1 0 (gkXLaw (subLaw zs off n)).length none, .slice 1 2 1 0 (gkALaw (subLaw zs off n)).length none, .slice 1 3 1 0 (gkBLaw (subLaw zs off n)).length none, .slice 1 4 1 0 (gkCLaw (subLaw zs off n)).length none, .int .i64 (gkSLaw (subLaw zs off n)), .slice 1 5 1 0 (gkDLaw (subLaw zs off n)).length none, .slice 1 6 1 0 (gkZLaw (subLaw zs off n)).length none, .slice 1 7 1 0 (gkYLaw (subLaw zs off n)).length none], .int .i64 (gkELaw (subLaw zs off n))]) [some ⟨.ints .u8 zs, g, ow, 5⟩, some ⟨.ints .u8 (gkXLaw (subLaw zs off n)), 1, true, 5⟩, some ⟨.ints .u8 (gkALaw (subLaw zs off n)), 1, true, 5⟩, some ⟨.ints .u8 (gkBLaw (subLaw zs off n)), 1, true, 5⟩, some ⟨.ints .u8 (gkCLaw (subLaw zs off n)), 1, true, 5⟩, some ⟨.ints .u8 (gkDLaw (subLaw zs off n)), 1, true, 5⟩, some ⟨.ints .u8 (gkZLaw (subLaw zs off n)), 1, true, 5⟩, some ⟨.ints .u8 (gkYLaw (subLaw zs off n)), 1, true, 5⟩]
  have hb : ByLaw (subLaw zs off n) := h2
  have hl := subLaw_len h1
  have hk := ka_off (subLaw zs off n)
  rw [hl] at hk
  obtain ⟨k0, k1, k2, k3⟩ := hk
  unfold kaO0 at k0
  unfold kaO1 kaO0 kaE0 at k1
  unfold kaO2 kaO1 kaE1 kaO0 kaE0 at k2
  unfold kaO3 kaO2 kaE2 kaO1 kaE1 kaO0 kaE0 at k3
  by_cases hr : reLaw (subLaw zs off n) (kaO3 (subLaw zs off n)) (kaE3 (subLaw zs off n)) = 0
  rotate_left
  · have hG : ¬ kaOK (subLaw zs off n) := fun h => hr h.1
    unfold gkXLaw gkALaw gkBLaw gkCLaw gkDLaw gkZLaw gkYLaw gkSLaw gkELaw
    simp only [if_neg hG]
    unfold kaO3 kaE3 kaO2 kaE2 kaO1 kaE1 kaO0 kaE0 at hr
    exact small_nilU 7 1 (small_nilU 6 1 (small_nilU 5 1 (small_nilU 3 1 (small_nilU 2 1 (small_nilU 1 1 (small_nilU 0 1 (small_ofG (R := nR29a zs g off n cp ow) eG4a_ok hmN (f := 29) (fn := f29) (by kernel_rfl) (by kernel_rfl) FnOrc.nil rfl (nR29a_ok (by simp only [allP, Con.h, eq_self, true_and, and_true, beq_iff_eq, beq_eq_false_iff_ne, ne_eq, decide_eq_true_eq, decide_eq_false_iff_not, hl, hb, h1, h3, k0, k1, k2, k3, Nat.le_refl, Nat.sub_zero, Nat.zero_le, bne_iff_ne, bne_eq_false_iff_eq, Nat.zero_add, not_false_eq_true, not_true_eq_false, hr])) nR29a_val nR29a_tab) rfl) rfl) rfl) rfl) rfl) rfl) rfl
  by_cases hR : RightP (kaX (subLaw zs off n)) (kaA (subLaw zs off n)) (kaB (subLaw zs off n)) (kaC (subLaw zs off n)) (kaS (subLaw zs off n)) (kaD (subLaw zs off n)) (kaZ (subLaw zs off n)) (kaY (subLaw zs off n))
  rotate_left
  · have hG : ¬ kaOK (subLaw zs off n) := fun h => hR h.2.1
    have hq := pk_out hR
    unfold gkXLaw gkALaw gkBLaw gkCLaw gkDLaw gkZLaw gkYLaw gkSLaw gkELaw
    simp only [if_neg hG]
    simp only [kaO3, kaE3, kaX, kaA, kaB, kaC, kaS, kaD, kaZ, kaY, kaO2, kaE2, kaO1, kaE1, kaO0, kaE0] at hr hR hq
    exact small_nilU 7 1 (small_nilU 6 1 (small_nilU 5 1 (small_nilU 3 1 (small_nilU 2 1 (small_nilU 1 1 (small_nilU 0 1 (small_ofG (R := nR29b zs g off n cp ow) eG4b_ok hmN (f := 29) (fn := f29) (by kernel_rfl) (by kernel_rfl) FnOrc.nil rfl (nR29b_ok (by simp only [allP, Con.h, eq_self, true_and, and_true, beq_iff_eq, beq_eq_false_iff_ne, ne_eq, decide_eq_true_eq, decide_eq_false_iff_not, hl, hb, h1, h3, k0, k1, k2, k3, Nat.le_refl, Nat.sub_zero, Nat.zero_le, bne_iff_ne, bne_eq_false_iff_eq, Nat.zero_add, not_false_eq_true, not_true_eq_false, hr, hq.2.2.1]; first | exact hE | omega | exact h1 | exact h3 | (simp only [subLaw, List.take_take, Nat.min_self] at hE ⊢; exact hE) | (simp only [subLaw, List.take_take, Nat.min_self]))) nR29b_val nR29b_tab) rfl) rfl) rfl) rfl) rfl) rfl) rfl
  have hq := pk_in hR
  by_cases hE : pkBLaw (kaX (subLaw zs off n)) (kaA (subLaw zs off n)) (kaB (subLaw zs off n)) (kaC (subLaw zs off n)) (kaS (subLaw zs off n)) (kaD (subLaw zs off n)) (kaZ (subLaw zs off n)) (kaY (subLaw zs off n)) = (subLaw zs off n)
  · have hG : kaOK (subLaw zs off n) := ⟨hr, hR, hE⟩
    unfold gkXLaw gkALaw gkBLaw gkCLaw gkDLaw gkZLaw gkYLaw gkSLaw gkELaw
    simp only [if_pos hG]
    simp only [kaO3, kaE3, kaX, kaA, kaB, kaC, kaS, kaD, kaZ, kaY, kaO2, kaE2, kaO1, kaE1, kaO0, kaE0] at hr hR hq hE
    simp only [kaO3, kaE3, kaX, kaA, kaB, kaC, kaS, kaD, kaZ, kaY, kaO2, kaE2, kaO1, kaE1, kaO0, kaE0]
    refine small_ofG (R := nR29c zs g off n cp ow) eG4c_ok hmN (f := 29) (fn := f29) (by kernel_rfl) (by kernel_rfl) FnOrc.nil rfl (nR29c_ok ?_) nR29c_val nR29c_tab
    simp only [allP, Con.h, eq_self, true_and, and_true, beq_iff_eq, beq_eq_false_iff_ne, ne_eq, decide_eq_true_eq, decide_eq_false_iff_not, hl, hb, h1, h3, k0, k1, k2, k3, Nat.le_refl, Nat.sub_zero, Nat.zero_le, bne_iff_ne, bne_eq_false_iff_eq, Nat.zero_add, not_false_eq_true, not_true_eq_false, hr, hq.2.2.1, hE, List.take_length, dropO_eq]
    first | exact hE | omega | exact h1 | exact h3 | (simp only [subLaw, List.take_take, Nat.min_self] at hE ⊢; exact hE) | (simp only [subLaw, List.take_take, Nat.min_self])
  · have hG : ¬ kaOK (subLaw zs off n) := fun h => hE h.2.2
    have hE2 := ka_ne hb hr hR hE
    unfold gkXLaw gkALaw gkBLaw gkCLaw gkDLaw gkZLaw gkYLaw gkSLaw gkELaw
    simp only [if_neg hG]
    simp only [kaO3, kaE3, kaX, kaA, kaB, kaC, kaS, kaD, kaZ, kaY, kaO2, kaE2, kaO1, kaE1, kaO0, kaE0] at hr hR hq hE hE2
    exact small_nilU 7 1 (small_nilU 6 1 (small_nilU 5 1 (small_nilU 3 1 (small_nilU 2 1 (small_nilU 1 1 (small_nilU 0 1 (small_ofG (R := nR29d zs g off n cp ow) eG4d_ok hmN (f := 29) (fn := f29) (by kernel_rfl) (by kernel_rfl) FnOrc.nil rfl (nR29d_ok (by simp only [allP, Con.h, eq_self, true_and, and_true, beq_iff_eq, beq_eq_false_iff_ne, ne_eq, decide_eq_true_eq, decide_eq_false_iff_not, hl, hb, h1, h3, k0, k1, k2, k3, Nat.le_refl, Nat.sub_zero, Nat.zero_le, bne_iff_ne, bne_eq_false_iff_eq, Nat.zero_add, not_false_eq_true, not_true_eq_false, hr, hq.2.2.1, List.take_length, dropO_eq, List.take_take, Nat.min_self]; exact hE2)) nR29d_val nR29d_tab) rfl) rfl) rfl) rfl) rfl) rfl) rfl
noncomputable def nsm29 : Summary := fun args T => nsm29c args T (xsAt T 0) (gAt T 0) (offOf (vAt args 0)) (lenOf (vAt args 0)) (capOf (vAt args 0)) (owAt T 0)
theorem nsm29_ok : SmOk prog (fun _ => none) 29 nsm29 := fun args T h => nsm29c_ok h
noncomputable def nS29 : Summary := callR nsm29 []
theorem nS29_ok : SumOk prog (fun _ => none) 29 nS29 := callR_ok nsm29_ok _
end Go.Abs

set_option linter.unusedVariables false
set_option linter.unusedSimpArgs false
set_option maxRecDepth 100000
set_option maxHeartbeats 4000000
namespace Go.Abs
open Go.Proofs Go.Proofs.Try
/-! ### packages: copies, and the laws of packages and texts -/
noncomputable def eL10b : Env := eN0 [(10, nS10), (35, nS35)]
theorem eL10b_ok : EnvOk eL10b := envOf_ok tysN_ok (SumsOk.cons (fn := f10) nS10_ok (by kernel_rfl) (by kernel_rfl) (by kernel_rfl) (SumsOk.cons (fn := f35) nS35_ok (by kernel_rfl) (by kernel_rfl) (by kernel_rfl) trivial))
noncomputable def nR26 (x : List Int) (a : List Int) (b : List Int) (c : List Int) (d : List Int) (z : List Int) (y : List Int) (g1 : Nat) (g2 : Nat) (g3 : Nat) (g4 : Nat) (g5 : Nat) (g6 : Nat) (g7 : Nat) (n1 : Nat) (n2 : Nat) (n3 : Nat) (n4 : Nat) (n5 : Nat) (n6 : Nat) (n7 : Nat) (c1 : Option Nat) (c2 : Option Nat) (c3 : Option Nat) (c4 : Option Nat) (c5 : Option Nat) (c6 : Option Nat) (c7 : Option Nat) (o1 : Bool) (o2 : Bool) (o3 : Bool) (o4 : Bool) (o5 : Bool) (o6 : Bool) (o7 : Bool) (s : Int) : Res := resG 7 [0, 1, 2, 3, 4, 5, 6, 9, 10, 11, 12, 13, 14, 15] (runF eL10b f26 [] 400 [.agg [.slice 1 0 g1 0 n1 c1, .slice 1 1 g2 0 n2 c2, .slice 1 2 g3 0 n3 c3, .slice 1 3 g4 0 n4 c4, .int .i64 s, .slice 1 4 g5 0 n5 c5, .slice 1 5 g6 0 n6 c6, .slice 1 6 g7 0 n7 c7]] [some ⟨.ints .u8 x, g1, o1, 5⟩, some ⟨.ints .u8 a, g2, o2, 5⟩, some ⟨.ints .u8 b, g3, o3, 5⟩, some ⟨.ints .u8 c, g4, o4, 5⟩, some ⟨.ints .u8 d, g5, o5, 5⟩, some ⟨.ints .u8 z, g6, o6, 5⟩, some ⟨.ints .u8 y, g7, o7, 5⟩] [])
theorem nR26_ok {x : List Int} {a : List Int} {b : List Int} {c : List Int} {d : List Int} {z : List Int} {y : List Int} {g1 : Nat} {g2 : Nat} {g3 : Nat} {g4 : Nat} {g5 : Nat} {g6 : Nat} {g7 : Nat} {n1 : Nat} {n2 : Nat} {n3 : Nat} {n4 : Nat} {n5 : Nat} {n6 : Nat} {n7 : Nat} {c1 : Option Nat} {c2 : Option Nat} {c3 : Option Nat} {c4 : Option Nat} {c5 : Option Nat} {c6 : Option Nat} {c7 : Option Nat}
 {o1 : Bool} {o2 : Bool} {o3 : Bool} {o4 : Bool} {o5 : Bool} {o6 : Bool} {o7 : Bool} {s : Int} (h : allP [.eqN g1 g1, .leN n1 140737488355328, .eqN g1 g1, .leN (0 + n1) x.length, .eqN g2 g2, .eqN g3 g3, .eqN g4 g4, .eqN g5 g5, .eqN g6 g6, .leN n2 a.length, .leN n3 b.length, .leN n4 c.length, .leN n5 d.length, .leN n6 z.length, .leN n2 140737488355000, .leN n3 140737488355000, .leN n4
 140737488355000, .leN n5 140737488355000, .leN n6 140737488355000, .eqN g7 g7, .leN n7 140737488355328, .eqN g7 g7, .leN (0 + n7) y.length]) : OkR (nR26 x a b c d z y g1 g2 g3 g4 g5 g6 g7 n1 n2 n3 n4 n5 n6 n7 c1 c2 c3 c4 c5 c6 c7 o1 o2 o3 o4 o5 o6 o7 s) := OkR.dem (fl := bitsF 74 16526618316961597057262) (by kernel_rfl) (by kernel_rfl) (by kernel_rfl) h
theorem nR26_val {x : List Int} {a : List Int} {b : List Int} {c : List Int} {d : List Int} {z : List Int} {y : List Int} {g1 : Nat} {g2 : Nat} {g3 : Nat} {g4 : Nat} {g5 : Nat} {g6 : Nat} {g7 : Nat} {n1 : Nat} {n2 : Nat} {n3 : Nat} {n4 : Nat} {n5 : Nat} {n6 : Nat} {n7 : Nat} {c1 : Option Nat} {c2 : Option Nat} {c3 : Option Nat} {c4 : Option Nat} {c5 : Option Nat} {c6 : Option Nat} {c7 : Option Nat}
 {o1 : Bool} {o2 : Bool} {o3 : Bool} {o4 : Bool} {o5 : Bool} {o6 : Bool} {o7 : Bool} {s : Int} : (nR26 x a b c d z y g1 g2 g3 g4 g5 g6 g7 n1 n2 n3 n4 n5 n6 n7 c1 c2 c3 c4 c5 c6 c7 o1 o2 o3 o4 o5 o6 o7 s).val = .agg [.slice 1 7 1 0 n1 none, .slice 1 8 1 0 n2 none, .slice 1 9 1 0 n3 none, .slice 1 10 1 0 n4 none, .int .i64 s, .slice 1 11 1 0 n5 none, .slice 1 12 1 0 n6 none, .slice 1 13 1 0 n7 none]
 := by kernel_rfl
theorem nR26_tab {x : List Int} {a : List Int} {b : List Int} {c : List Int} {d : List Int} {z : List Int} {y : List Int} {g1 : Nat} {g2 : Nat} {g3 : Nat} {g4 : Nat} {g5 : Nat} {g6 : Nat} {g7 : Nat} {n1 : Nat} {n2 : Nat} {n3 : Nat} {n4 : Nat} {n5 : Nat} {n6 : Nat} {n7 : Nat} {c1 : Option Nat} {c2 : Option Nat} {c3 : Option Nat} {c4 : Option Nat} {c5 : Option Nat} {c6 : Option Nat} {c7 : Option Nat}
 {o1 : Bool} {o2 : Bool} {o3 : Bool} {o4 : Bool} {o5 : Bool} {o6 : Bool} {o7 : Bool} {s : Int} : (nR26 x a b c d z y g1 g2 g3 g4 g5 g6 g7 n1 n2 n3 n4 n5 n6 n7 c1 c2 c3 c4 c5 c6 c7 o1 o2 o3 o4 o5 o6 o7 s).tab = [some ⟨.ints .u8 x, g1, o1, 5⟩, some ⟨.ints .u8 a, g2, o2, 5⟩, some ⟨.ints .u8 b, g3, o3, 5⟩, some ⟨.ints .u8 c, g4, o4, 5⟩, some ⟨.ints .u8 d, g5, o5, 5⟩, some ⟨.ints .u8 z, g6, o6, 5⟩, some
 ⟨.ints .u8 y, g7, o7, 5⟩, some ⟨.ints .u8 ([] ++ List.take n1 x), 1, true, 5⟩, some ⟨.ints .u8 (List.take n2 a), 1, true, 5⟩, some ⟨.ints .u8 (List.take n3 b), 1, true, 5⟩, some ⟨.ints .u8 (List.take n4 c), 1, true, 5⟩, some ⟨.ints .u8 (List.take n5 d), 1, true, 5⟩, some ⟨.ints .u8 (List.take n6 z), 1, true, 5⟩, some ⟨.ints .u8 ([] ++ List.take n7 y), 1, true, 5⟩] := by kernel_rfl
noncomputable def nsm26c (args : List AVal) (T : Tab) (x : List Int) (a : List Int) (b : List Int) (c : List Int) (d : List Int) (z : List Int) (y : List Int) (g1 : Nat) (g2 : Nat) (g3 : Nat) (g4 : Nat) (g5 : Nat) (g6 : Nat) (g7 : Nat) (n1 : Nat) (n2 : Nat) (n3 : Nat) (n4 : Nat) (n5 : Nat) (n6 : Nat) (n7 : Nat) (c1 : Option Nat) (c2 : Option Nat) (c3 : Option Nat) (c4 : Option Nat) (c5 : Option Nat) (c6 : Option Nat) (c7 : Option Nat) (o1 : Bool) (o2 : Bool) (o3 : Bool) (o4 : Bool) (o5 : Bool) (o6 : Bool) (o7 : Bool) (s : Int) : Res := ⟨[.tab T [some ⟨.ints .u8 x, g1, o1, 5⟩, some ⟨.ints .u8 a, g2, o2, 5⟩, some ⟨.ints .u8 b, g3, o3, 5⟩, some ⟨.ints .u8 c, g4, o4, 5⟩, some ⟨.ints .u8 d, g5, o5, 5⟩, some ⟨.ints .u8 z, g6, o6, 5⟩, some ⟨.ints .u8 y, g7, o7, 5⟩], .val (.tuple args) (.tuple [.agg [.slice 1 0 g1 0 n1 c1, .slice 1 1 g2 0 n2 c2, .slice 1 2 g3 0 n3 c3, .slice 1 3 g4 0 n4 c4, .int .i64 s, .slice 1 4 g5 0 n5 c5, .slice 1 5 g6 0 n6 c6, .slice 1 6 g7 0 n7 c7]]), .leN n1 x.length, .leN n2 a.length, .leN n3 b.length, .leN n4 c.length, .leN n5 d.length, .leN n6 z.length, .leN n7 y.length, .leN n1 140737488355000, .leN n2 140737488355000, .leN n3 140737488355000, .leN n4 140737488355000, .leN n5 140737488355000, .leN n6 140737488355000, .leN n7 140737488355000], .agg [.slice 1 7 1 0 n1 none, .slice 1 8 1 0 n2 none, .slice 1 9 1 0 n3 none, .slice 1 10 1 0 n4 none, .int .i64 s, .slice 1 11 1 0 n5 none, .slice 1 12 1 0 n6 none, .slice 1 13 1 0 n7 none], [some ⟨.ints .u8 x, g1, o1, 5⟩, some ⟨.ints .u8 a, g2, o2, 5⟩, some ⟨.ints .u8 b, g3, o3, 5⟩, some ⟨.ints .u8 c, g4, o4, 5⟩, some ⟨.ints .u8 d, g5, o5, 5⟩, some ⟨.ints .u8 z, g6, o6, 5⟩, some ⟨.ints .u8 y, g7, o7, 5⟩, some ⟨.ints .u8 (List.take n1 x), 1, true, 5⟩, some ⟨.ints .u8 (List.take n2 a), 1, true, 5⟩, some ⟨.ints .u8 (List.take n3 b), 1, true, 5⟩, some ⟨.ints .u8 (List.take n4 c), 1, true, 5⟩, some ⟨.ints .u8 (List.take n5 d), 1, true, 5⟩, some ⟨.ints .u8 (List.take n6 z), 1, true, 5⟩, some ⟨.ints .u8 (List.take n7 y), 1, true, 5⟩]⟩
theorem nsm26c_ok {args : List AVal} {T : Tab} {x : List Int} {a : List Int} {b : List Int} {c : List Int} {d : List Int} {z : List Int} {y : List Int} {g1 : Nat} {g2 : Nat} {g3 : Nat} {g4 : Nat} {g5 : Nat} {g6 : Nat} {g7 : Nat} {n1 : Nat} {n2 : Nat} {n3 : Nat} {n4 : Nat} {n5 : Nat} {n6 : Nat} {n7 : Nat} {c1 : Option Nat} {c2 : Option Nat} {c3 : Option Nat} {c4 : Option Nat} {c5 : Option Nat} {c6 : Option Nat} {c7 : Option Nat} {o1 : Bool} {o2 : Bool} {o3 : Bool} {o4 : Bool} {o5 : Bool} {o6 : Bool} {o7 : Bool} {s : Int} (h : allP (nsm26c args T x a b c d z y g1 g2 g3 g4 g5 g6 g7 n1 n2 n3 n4 n5 n6 n7 c1 c2 c3 c4 c5 c6 c7 o1 o2 o3 o4 o5 o6 o7 s).cs) : Small prog (fun _ => none) 26 args T (nsm26c args T x a b c d z y g1 g2 g3 g4 g5 g6 g7 n1 n2 n3 n4 n5 n6 n7 c1 c2 c3 c4 c5 c6 c7 o1 o2 o3 o4 o5 o6 o7 s).val (nsm26c args T x a b c d z y g1 g2 g3 g4 g5 g6 g7 n1 n2 n3 n4 n5 n6 n7 c1 c2 c3 c4 c5 c6 c7 o1 o2 o3 o4 o5 o6 o7 s).tab := by
  obtain ⟨hT, hv, h1, h2, h3, h4, h5, h6, h7, h8, h9, h10, h11, h12, h13, h14, _⟩ := h
  simp only [Con.h] at hT hv h1 h2 h3 h4 h5 h6 h7 h8 h9 h10 h11 h12 h13 h14
  injection hv with hv
  subst hT hv
  show Small prog (fun _ => none) 26 [.agg [.slice 1 0 g1 0 n1 c1, .slice 1 1 g2 0 n2 c2, .slice 1 2 g3 0 n3 c3, .slice 1 3 g4 0 n4 c4, .int .i64 s, .slice 1 4 g5 0 n5 c5, .slice 1 5 g6 0 n6 c6, .slice 1 6 g7 0 n7 c7]] [some ⟨.ints .u8 x, g1, o1, 5⟩, some ⟨.ints .u8 a, g2, o2, 5⟩, some ⟨.ints .u8 b, g3, o3, 5⟩, some ⟨.ints .u8 c, g4, o4, 5⟩, some ⟨.ints .u8 d, g5, o5, 5⟩, some ⟨.ints .u8 z, g6, o6, 5⟩, some ⟨.ints .u8 y, g7, o7, 5⟩] (.agg [.slice 1 7 1 0 n1 none, .slice 1 8 1 0 n2 none, .slice 1 9 1 0 n3 none, .slice 1 10 1 0 n4 none, .int .i64 s, .slice 1 11 1 0 n5 none, .slice 1 12 1 0 n6 none, .slice 1 13 1 0 n7 none]) [some ⟨.ints .u8 x, g1, o1, 5⟩, some ⟨.ints .u8 a, g2, o2, 5⟩, some ⟨.ints .u8 b, g3, o3, 5⟩, some ⟨.ints .u8 c, g4, o4, 5⟩, some ⟨.ints .u8 d, g5, o5, 5⟩, some ⟨.ints .u8 z, g6, o6, 5⟩, some ⟨.ints .u8 y, g7, o7, 5⟩, some ⟨.ints .u8 (List.take n1 x), 1, true, 5⟩, some ⟨.ints .u8 (List.take n2 a), 1, true, 5⟩, some ⟨.ints .u8 (List.take n3 b), 1, true, 5⟩, some ⟨.ints .u8 (List.take n4 c), 1, true, 5⟩, some ⟨.ints .u8 (List.take n5 d), 1, true, 5⟩, some ⟨.ints .u8 (List.take n6 z), 1, true, 5⟩, some ⟨.ints .u8 (List.take n7 y), 1, true, 5⟩]
  refine small_ofG (R := nR26 x a b c d z y g1 g2 g3 g4 g5 g6 g7 n1 n2 n3 n4 n5 n6 n7 c1 c2 c3 c4 c5 c6 c7 o1 o2 o3 o4 o5 o6 o7 s) eL10b_ok hmN (f := 26) (fn := f26) (by kernel_rfl) (by kernel_rfl) FnOrc.nil rfl (nR26_ok ?_) nR26_val ?_
  · simp only [allP, Con.h, eq_self, true_and, and_true, beq_iff_eq, beq_eq_false_iff_ne, ne_eq, decide_eq_true_eq, decide_eq_false_iff_not, Nat.zero_add]
    omega
  · rw [nR26_tab]
    simp only [List.nil_append]
noncomputable def nsm26 : Summary := fun args T => nsm26c args T (xsAt T 0) (xsAt T 1) (xsAt T 2) (xsAt T 3) (xsAt T 4) (xsAt T 5) (xsAt T 6) (gAt T 0) (gAt T 1) (gAt T 2) (gAt T 3) (gAt T 4) (gAt T 5) (gAt T 6) (lenOf ((vAt args 0).get 0)) (lenOf ((vAt args 0).get 1)) (lenOf ((vAt args 0).get 2)) (lenOf ((vAt args 0).get 3)) (lenOf ((vAt args 0).get 5)) (lenOf ((vAt args 0).get 6)) (lenOf ((vAt args 0).get 7)) (capOf ((vAt args 0).get 0)) (capOf ((vAt args 0).get 1)) (capOf ((vAt args 0).get 2)) (capOf ((vAt args 0).get 3)) (capOf ((vAt args 0).get 5)) (capOf ((vAt args 0).get 6)) (capOf ((vAt args 0).get 7)) (owAt T 0) (owAt T 1) (owAt T 2) (owAt T 3) (owAt T 4) (owAt T 5) (owAt T 6) (iOf ((vAt args 0).get 4))
theorem nsm26_ok : SmOk prog (fun _ => none) 26 nsm26 := fun args T h => nsm26c_ok h
noncomputable def nS26 : Summary := callR nsm26 []
theorem nS26_ok : SumOk prog (fun _ => none) 26 nS26 := callR_ok nsm26_ok _
noncomputable def eL16 : Env := eN0 [(16, nS16)]
theorem eL16_ok : EnvOk eL16 := envOf_ok tysN_ok (SumsOk.cons (fn := f16) nS16_ok (by kernel_rfl) (by kernel_rfl) (by kernel_rfl) trivial)
noncomputable def nS31 : Summary := sumI modeO eL16 f31 [] 400 [some true, none, some true] []
theorem nS31_ok : SumOk prog (fun _ => none) 31 nS31 := sumI_ok eL16_ok hmN (fn := f31) (by kernel_rfl) (by kernel_rfl) [] FnOrc.nil 400 [some true, none, some true] []
end Go.Abs

set_option linter.unusedVariables false
set_option linter.unusedSimpArgs false
set_option maxRecDepth 100000
set_option maxHeartbeats 4000000
namespace Go.Abs
open Go.Proofs Go.Proofs.Try
/-! ### unlike leaves have unlike texts -/
theorem num_by (n size : Int) : ∀ c ∈ numLaw n size, 0 ≤ c ∧ c < 256 := by
  intro c hc
  unfold numLaw at hc
  split at hc
  · unfold beLaw at hc
    rw [List.mem_map] at hc
    obtain ⟨j, _, rfl⟩ := hc
    omega
  · cases hc
theorem vec1_by {r : List Int} (h : ∀ c ∈ r, 0 ≤ c ∧ c < 256) : ∀ c ∈ vec1Law r, 0 ≤ c ∧ c < 256 := by
  intro c hc
  unfold vec1Law at hc
  rcases List.mem_append.1 hc with hc | hc
  · exact lenLaw_by _ c hc
  · exact h c hc
theorem app_by {l r : List Int} (h1 : ∀ c ∈ l, 0 ≤ c ∧ c < 256) (h2 : ∀ c ∈ r, 0 ≤ c ∧ c < 256) : ∀ c ∈ l ++ r, 0 ≤ c ∧ c < 256 := fun c hc => by
  rcases List.mem_append.1 hc with hc | hc
  · exact h1 c hc
  · exact h2 c hc
theorem nil_by : ∀ c ∈ ([] : List Int), 0 ≤ c ∧ c < 256 := fun c hc => by cases hc
theorem bare_by {a b c : List Int} {s : Int} {d : List Int} (h1 : ∀ c ∈ a, 0 ≤ c ∧ c < 256) (h2 : ∀ c ∈ b, 0 ≤ c ∧ c < 256) (h3 : ∀ x ∈ c, 0 ≤ x ∧ x < 256) (h4 : ∀ c ∈ d, 0 ≤ c ∧ c < 256) : ∀ x ∈ bareLaw a b c s d, 0 ≤ x ∧ x < 256 := by
  unfold bareLaw jn3Law
  refine app_by (app_by (vec1_by h1) (app_by (vec1_by h2) (vec1_by h3))) (app_by (num_by _ _) ?_)
  split
  · exact vec1_by h4
  · exact nil_by
theorem take_by {n : Nat} {a : List Int} (h : ∀ c ∈ a, 0 ≤ c ∧ c < 256) : ∀ c ∈ List.take n a, 0 ≤ c ∧ c < 256 := fun c hc => h c (List.mem_of_mem_take hc)
/-- a leaf that was written, read -/
theorem leaf_at {P S a b c d : List Int} {s : Int} (ha : a.length ≤ 65536) (hb : b.length ≤ 65536) (hc : c.length ≤ 65536) (hd : d.length ≤ 65536) (hs : 0 ≤ s) (hs2 : s < 256) {B : List Int} (hB : B = P ++ (bareLaw a b c s d ++ S)) :
    lfALaw B P.length 0 = a ∧ lfBLaw B P.length 0 = b ∧ lfCLaw B P.length 0 = c ∧ lfSLaw B P.length 0 = s ∧ lfDLaw B P.length 0 = (if s = 3 then d else []) ∧ s5O B P.length 0 = P.length + (bareLaw a b c s d).length ∧ s5E B P.length 0 = 0 := by
  have e1 : B = P ++ (vec1Law a ++ (vec1Law b ++ (vec1Law c ++ (numLaw s 1 ++ ((if s = 3 then vec1Law d else []) ++ S))))) := by
    rw [hB]
    unfold bareLaw jn3Law
    simp only [List.append_assoc]
  have r1 : rvP B P.length 0 = (a, P.length + (vec1Law a).length, 0) := by rw [e1]; exact rv_at ha
  have e2 : B = (P ++ vec1Law a) ++ (vec1Law b ++ (vec1Law c ++ (numLaw s 1 ++ ((if s = 3 then vec1Law d else []) ++ S)))) := by rw [e1]; simp only [List.append_assoc]
  have r2 : rvP B (P.length + (vec1Law a).length) 0 = (b, P.length + (vec1Law a).length + (vec1Law b).length, 0) := by
    have := rv_at (P := P ++ vec1Law a) (S := vec1Law c ++ (numLaw s 1 ++ ((if s = 3 then vec1Law d else []) ++ S))) hb
    rwa [← e2, List.length_append] at this
  have e3 : B = (P ++ vec1Law a ++ vec1Law b) ++ (vec1Law c ++ (numLaw s 1 ++ ((if s = 3 then vec1Law d else []) ++ S))) := by rw [e1]; simp only [List.append_assoc]
  have r3 : rvP B (P.length + (vec1Law a).length + (vec1Law b).length) 0 = (c, P.length + (vec1Law a).length + (vec1Law b).length + (vec1Law c).length, 0) := by
    have := rv_at (P := P ++ vec1Law a ++ vec1Law b) (S := numLaw s 1 ++ ((if s = 3 then vec1Law d else []) ++ S)) hc
    rwa [← e3, List.length_append, List.length_append] at this
  have e4 : B = (P ++ vec1Law a ++ vec1Law b ++ vec1Law c) ++ numLaw s 1 ++ ((if s = 3 then vec1Law d else []) ++ S) := by rw [e1]; simp only [List.append_assoc]
  have r4 : rnP B (P.length + (vec1Law a).length + (vec1Law b).length + (vec1Law c).length) 0 1 = (s, P.length + (vec1Law a).length + (vec1Law b).length + (vec1Law c).length + (numLaw s 1).length, 0) := by
    have := rn_back (P := P ++ vec1Law a ++ vec1Law b ++ vec1Law c) (S := (if s = 3 then vec1Law d else []) ++ S) (n := s) (size := 1) (.inl rfl) hs (by unfold mostLaw; rw [if_pos rfl]; exact hs2)
    rwa [← e4, List.length_append, List.length_append, List.length_append] at this
  have hO1 : s1O B P.length 0 = P.length + (vec1Law a).length := by unfold s1O rvOLaw; rw [r1]
  have hE1 : s1E B P.length 0 = 0 := by unfold s1E rvELaw; rw [r1]
  have hO2 : s2O B P.length 0 = P.length + (vec1Law a).length + (vec1Law b).length := by unfold s2O; rw [hO1, hE1]; unfold rvOLaw; rw [r2]
  have hE2 : s2E B P.length 0 = 0 := by unfold s2E; rw [hO1, hE1]; unfold rvELaw; rw [r2]
  have hO3 : s3O B P.length 0 = P.length + (vec1Law a).length + (vec1Law b).length + (vec1Law c).length := by unfold s3O; rw [hO2, hE2]; unfold rvOLaw; rw [r3]
  have hE3 : s3E B P.length 0 = 0 := by unfold s3E; rw [hO2, hE2]; unfold rvELaw; rw [r3]
  have hO4 : s4O B P.length 0 = P.length + (vec1Law a).length + (vec1Law b).length + (vec1Law c).length + (numLaw s 1).length := by unfold s4O; rw [hO3, hE3]; unfold rnOLaw; rw [r4]
  have hE4 : s4E B P.length 0 = 0 := by unfold s4E; rw [hO3, hE3]; unfold rnELaw; rw [r4]
  have hS : lfSLaw B P.length 0 = s := by unfold lfSLaw; rw [hO3, hE3]; unfold rnVLaw; rw [r4]
  have hl : (bareLaw a b c s d).length = (vec1Law a).length + (vec1Law b).length + (vec1Law c).length + (numLaw s 1).length + (if s = 3 then vec1Law d else []).length := by
    unfold bareLaw jn3Law
    simp only [List.length_append]
    omega
  refine ⟨by unfold lfALaw rvVLaw; rw [r1], by unfold lfBLaw; rw [hO1, hE1]; unfold rvVLaw; rw [r2], by unfold lfCLaw; rw [hO2, hE2]; unfold rvVLaw; rw [r3], hS, ?_⟩
  unfold lfDLaw s5O s5E
  rw [hS, hO4, hE4, hl]
  by_cases h3 : s = 3
  · simp only [if_pos h3]
    have e5 : B = (P ++ vec1Law a ++ vec1Law b ++ vec1Law c ++ numLaw s 1) ++ (vec1Law d ++ S) := by rw [e1, if_pos h3]; simp only [List.append_assoc]
    have r5 : rvP B (P.length + (vec1Law a).length + (vec1Law b).length + (vec1Law c).length + (numLaw s 1).length) 0 = (d, P.length + (vec1Law a).length + (vec1Law b).length + (vec1Law c).length + (numLaw s 1).length + (vec1Law d).length, 0) := by
      have := rv_at (P := P ++ vec1Law a ++ vec1Law b ++ vec1Law c ++ numLaw s 1) (S := S) hd
      rwa [← e5, List.length_append, List.length_append, List.length_append, List.length_append] at this
    unfold rvVLaw rvOLaw rvELaw
    rw [r5]
    refine ⟨rfl, ?_, rfl⟩
    dsimp only
    omega
  · simp only [if_neg h3, List.length_nil, true_and, and_true]
    omega
theorem right_hash {n1 n2 n3 n4 n5 : Nat} {s : Int} (h : RightN n1 n2 n3 s n4 n5) (h3 : s ≠ 3) : n4 = 0 := by
  obtain ⟨_, _, _, _, _, _, _, h8⟩ := h
  rcases h8 with h8 | h8
  · exact h8
  · exact absurd h8.2 h3
end Go.Abs

set_option linter.unusedVariables false
set_option linter.unusedSimpArgs false
set_option maxRecDepth 100000
set_option maxHeartbeats 4000000
namespace Go.Abs
open Go.Proofs Go.Proofs.Try
end Go.Abs

set_option linter.unusedVariables false
set_option linter.unusedSimpArgs false
set_option maxRecDepth 100000
set_option maxHeartbeats 4000000
namespace Go.Abs
open Go.Proofs Go.Proofs.Try
/-! ### may a parent be? -/
def lastLaw (u : List Int) (i : Nat) : Int := match i with | 0 => -1 | j + 1 => u.getD j 0
def StepU (u : List Int) (i : Nat) : Prop := lastLaw u i < u.getD i 0 ∧ u.getD i 0 < 64
instance (u : List Int) (i : Nat) : Decidable (StepU u i) := by unfold StepU; exact inferInstance
def RiseU (u : List Int) : Prop := ∀ i, i < u.length → StepU u i
instance (u : List Int) : Decidable (RiseU u) := by unfold RiseU; exact inferInstance
def RightU (n1 n2 : Nat) (u : List Int) : Prop := n1 = 32 ∧ (n2 = 0 ∨ n2 = 32) ∧ RiseU u
instance (n1 n2 : Nat) (u : List Int) : Decidable (RightU n1 n2 u) := by unfold RightU; exact inferInstance
theorem least {P : Nat → Prop} [DecidablePred P] {n : Nat} (h : ¬ ∀ i, i < n → P i) : ∃ k, k < n ∧ ¬ P k ∧ ∀ i, i < k → P i := by
  induction n with
  | zero => exact absurd (fun i hi => absurd hi (Nat.not_lt_zero i)) h
  | succ n ih =>
    by_cases hn : ∀ i, i < n → P i
    · by_cases hp : P n
      · refine absurd (fun i hi => ?_) h
        rcases Nat.lt_or_ge i n with k | k
        · exact hn i k
        · obtain rfl : i = n := by omega
          exact hp
      · exact ⟨n, Nat.lt_succ_self n, hp, hn⟩
    · obtain ⟨k, h1, h2, h3⟩ := ih hn
      exact ⟨k, by omega, h2, h3⟩
theorem rise_ge {u : List Int} (h : RiseU u) : ∀ i, i < u.length → (i : Int) ≤ u.getD i 0
  | 0, hi => by have k : (-1 : Int) < u.getD 0 0 := (h 0 hi).1; omega
  | i + 1, hi => by
    have k := rise_ge h i (by omega)
    have k2 : u.getD i 0 < u.getD (i + 1) 0 := (h (i + 1) hi).1
    omega
theorem rise_len {u : List Int} (h : RiseU u) : u.length ≤ 64 := by
  rcases Nat.lt_or_ge 64 u.length with k | k
  · have h1 := rise_ge h 64 k
    have h2 := (h 64 k).2
    omega
  · exact k
theorem rise_in {u : List Int} (h : RiseU u) {i : Nat} (hi : i < u.length) : 0 ≤ u.getD i 0 ∧ u.getD i 0 < 64 := by
  have := rise_ge h i hi
  have := (h i hi).2
  omega
theorem split49 : backC 5 (bodyOf f49) = .block 0 (.loop (roundOf 0 f49)) := by kernel_rfl
theorem AWp.cutN {E : Env} (hE : EnvOk E) (hm : E.P.follows .mixedOrders = true) {n k m : Nat} {f : Nat} {post : AExit → Fm → Tab → Prop} {c : Code} (j : Nat) {fm : Fm} {T : Tab} {ds : List (Option Bool)} {slots : List Nat} {o : Out} (ho : Abs.trim k m slots (runs E n ⟨k, []⟩ f (frontC j c) fm T ds) = o) (hc : Ok o) (hx : o.ex = .normal) (h : AWp E n k (backC j c) o.fm o.tab post) : AWp E n k c fm T post := by
  generalize hr : runs E n ⟨k, []⟩ f (frontC j c) fm T ds = r at ho
  obtain ⟨cs, ex, fm1, T1, ds1⟩ := r
  unfold Abs.trim at ho
  simp only at ho
  split at ho
  · rename_i g hp hb
    subst ho
    exact AWp.cut hE hm j hr ⟨hc.h⟩ hx (AWp.enter hp hb h)
  · subst ho
    exact absurd hc.h failO_no
/-- rounds, and one that panics -/
theorem AWp.roundsPan {E : Env} {n k : Nat} {id : Nat} {c : Code} (F : Nat → Fm) (T : Nat → Tab) (N : Nat) {t : TypeId} {kk : IntKind} {m : Int} {T' : Tab}
    (round : ∀ i, i < N → To E n k c (F i) (T i) .normal (F (i + 1)) (T (i + 1))) (last : AWp E n k c (F N) (T N) fun ex fm T1 => ex = .panic t kk m ∧ T1 = T') : AWp E n k (.block id (.loop c)) (F 0) (T 0) fun ex fm T1 => ex = .panic t kk m ∧ T1 = T' := by
  refine AWp.block ?_
  refine AWp.loop (fun fm T' m => ∃ i, i ≤ N ∧ m = N - i ∧ fm = F i ∧ T' = T i) N ⟨0, Nat.zero_le _, rfl, rfl, rfl⟩ ?_
  rintro fm T1 m0 ⟨i, hi', rfl, rfl, rfl⟩
  rcases Nat.lt_or_ge i N with hlt | hge
  · refine (round i hlt).mono fun ex fm1 T1 ⟨e1, e2, e3⟩ => ?_
    subst e1 e2 e3
    exact ⟨N - (i + 1), by omega, i + 1, hlt, rfl, rfl, rfl⟩
  · have : i = N := by omega
    subst this
    refine last.mono fun e fm1 T1 ⟨e1, e3⟩ => ?_
    subst e1 e3
    exact ⟨rfl, rfl⟩
def fstC : Code → Code
  | .seq a b => a
  | c => c
def sndC : Code → Code
  | .seq a b => b
  | c => c
def blkC : Code → Code
  | .block _ c => c
  | .loop c => c
  | c => c
noncomputable def in49 : Code := blkC (fstC (backC 2 (roundOf 0 f49)))
noncomputable def r49 : Code := sndC (backC 2 (roundOf 0 f49))
theorem split49r : backC 2 (roundOf 0 f49) = .seq (.block 1 in49) r49 := by kernel_rfl
noncomputable def nF49y (a : List Int) (b : List Int) (u : List Int) (g1 : Nat) (g2 : Nat) (g3 : Nat) (n1 : Nat) (n2 : Nat) (n3 : Nat) : Out := trim 3 4 [1,2,20,21,22] (runs eM1 36 ⟨3, []⟩ 400 (frontC 5 (bodyOf f49)) (argF [.agg [.slice 1 0 g1 0 n1 none, .slice 1 1 g2 0 n2 none, .slice 1 2 g3 0 n3 none]] 0) [some ⟨.ints .u8 a, g1, false, 5⟩, some ⟨.ints .u8 b, g2, false, 5⟩, some ⟨.ints .i64 u, g3, false, 3⟩] [some true])
theorem nF49y_ok {a : List Int} {b : List Int} {u : List Int} {g1 : Nat} {g2 : Nat} {g3 : Nat} {n1 : Nat} {n2 : Nat} {n3 : Nat} (h : allP [.eqN g1 g1, .eqN g1 g1, .p (((↑n1 : Int) == 32) = true), .eqN g2 g2, .p (((↑n2 : Int) == 0) = true), .eqN g3 g3]) : Ok (nF49y a b u g1 g2 g3 n1 n2 n3) := Ok.dem (fl := bitsF 15 14791) (by kernel_rfl) (by kernel_rfl) (by kernel_rfl) h
theorem nF49y_ex {a : List Int} {b : List Int} {u : List Int} {g1 : Nat} {g2 : Nat} {g3 : Nat} {n1 : Nat} {n2 : Nat} {n3 : Nat} : (nF49y a b u g1 g2 g3 n1 n2 n3).ex = .normal := by kernel_rfl
theorem nF49y_fm {a : List Int} {b : List Int} {u : List Int} {g1 : Nat} {g2 : Nat} {g3 : Nat} {n1 : Nat} {n2 : Nat} {n3 : Nat} : (nF49y a b u g1 g2 g3 n1 n2 n3).fm = [(1, .var 3 0), (2, .int .i64 (-1)), (20, .slice 1 2 g3 0 n3 none), (21, .int .i64 (↑n3 : Int)), (22, .int .i64 0)] := by kernel_rfl
theorem nF49y_tab {a : List Int} {b : List Int} {u : List Int} {g1 : Nat} {g2 : Nat} {g3 : Nat} {n1 : Nat} {n2 : Nat} {n3 : Nat} : (nF49y a b u g1 g2 g3 n1 n2 n3).tab = [some ⟨.ints .u8 a, g1, false, 5⟩, some ⟨.ints .u8 b, g2, false, 5⟩, some ⟨.ints .i64 u, g3, false, 3⟩, some ⟨.agg [.slice 1 0 g1 0 n1 none, .slice 1 1 g2 0 n2 none, .slice 1 2 g3 0 n3 none], 0, true, 47⟩] := by kernel_rfl
noncomputable def nF49n (a : List Int) (b : List Int) (u : List Int) (g1 : Nat) (g2 : Nat) (g3 : Nat) (n1 : Nat) (n2 : Nat) (n3 : Nat) : Out := trim 3 4 [1,2,20,21,22] (runs eM1 36 ⟨3, []⟩ 400 (frontC 5 (bodyOf f49)) (argF [.agg [.slice 1 0 g1 0 n1 none, .slice 1 1 g2 0 n2 none, .slice 1 2 g3 0 n3 none]] 0) [some ⟨.ints .u8 a, g1, false, 5⟩, some ⟨.ints .u8 b, g2, false, 5⟩, some ⟨.ints .i64 u, g3, false, 3⟩] [some false, some true])
theorem nF49n_ok {a : List Int} {b : List Int} {u : List Int} {g1 : Nat} {g2 : Nat} {g3 : Nat} {n1 : Nat} {n2 : Nat} {n3 : Nat} (h : allP [.eqN g1 g1, .eqN g1 g1, .p (((↑n1 : Int) == 32) = true), .eqN g2 g2, .p (((↑n2 : Int) == 0) = false), .eqN g2 g2, .p (((↑n2 : Int) == 32) = true), .eqN g3 g3]) : Ok (nF49n a b u g1 g2 g3 n1 n2 n3) := Ok.dem (fl := bitsF 20 473543) (by kernel_rfl) (by kernel_rfl)
 (by kernel_rfl) h
theorem nF49n_ex {a : List Int} {b : List Int} {u : List Int} {g1 : Nat} {g2 : Nat} {g3 : Nat} {n1 : Nat} {n2 : Nat} {n3 : Nat} : (nF49n a b u g1 g2 g3 n1 n2 n3).ex = .normal := by kernel_rfl
theorem nF49n_fm {a : List Int} {b : List Int} {u : List Int} {g1 : Nat} {g2 : Nat} {g3 : Nat} {n1 : Nat} {n2 : Nat} {n3 : Nat} : (nF49n a b u g1 g2 g3 n1 n2 n3).fm = [(1, .var 3 0), (2, .int .i64 (-1)), (20, .slice 1 2 g3 0 n3 none), (21, .int .i64 (↑n3 : Int)), (22, .int .i64 0)] := by kernel_rfl
theorem nF49n_tab {a : List Int} {b : List Int} {u : List Int} {g1 : Nat} {g2 : Nat} {g3 : Nat} {n1 : Nat} {n2 : Nat} {n3 : Nat} : (nF49n a b u g1 g2 g3 n1 n2 n3).tab = [some ⟨.ints .u8 a, g1, false, 5⟩, some ⟨.ints .u8 b, g2, false, 5⟩, some ⟨.ints .i64 u, g3, false, 3⟩, some ⟨.agg [.slice 1 0 g1 0 n1 none, .slice 1 1 g2 0 n2 none, .slice 1 2 g3 0 n3 none], 0, true, 47⟩] := by kernel_rfl
noncomputable def nD49 (a : List Int) (b : List Int) (u : List Int) (g1 : Nat) (g2 : Nat) (g3 : Nat) (n1 : Nat) (n2 : Nat) (n3 : Nat) (last : Int) (i : Nat) : Out := trim 4 4 [1,2,20,21,22] (run eM1 36 ⟨4, []⟩ 400 (roundOf 0 f49) [(1, .var 3 0), (2, .int .i64 last), (20, .slice 1 2 g3 0 n3 none), (21, .int .i64 (n3 : Nat)), (22, .int .i64 (i : Nat))] [some ⟨.ints .u8 a, g1, false, 5⟩, some ⟨.ints .u8 b, g2, false, 5⟩, some ⟨.ints .i64 u, g3, false, 3⟩, some ⟨.agg [.slice 1 0 g1 0 n1 none, .slice 1 1 g2 0 n2 none, .slice 1 2 g3 0 n3 none], 0, true, 47⟩] [some true, some true, some true])
theorem nD49_ok {a : List Int} {b : List Int} {u : List Int} {g1 : Nat} {g2 : Nat} {g3 : Nat} {n1 : Nat} {n2 : Nat} {n3 : Nat} {last : Int} {i : Nat} (h : allP [.p (decide ((↑i : Int) < (↑n3 : Int)) = true), .eqN g3 g3, .leI 0 (↑i : Int), .leI ((↑i : Int) + 1) (↑n3 : Int), .eqN g3 g3, .leN (i + 1) u.length, .p (decide (last < u.getD i 0) = true), .p (decide (u.getD i 0 < 64) = true), .rng
 (-9223372036854775808) ((↑i : Int) + 1) 9223372036854775807]) : Ok (nD49 a b u g1 g2 g3 n1 n2 n3 last i) := Ok.dem (fl := [false, false, false, false, false, false, false, false, false]) (by kernel_rfl) (by kernel_rfl) (by kernel_rfl) h
theorem nD49_ex {a : List Int} {b : List Int} {u : List Int} {g1 : Nat} {g2 : Nat} {g3 : Nat} {n1 : Nat} {n2 : Nat} {n3 : Nat} {last : Int} {i : Nat} : (nD49 a b u g1 g2 g3 n1 n2 n3 last i).ex = .normal := by kernel_rfl
theorem nD49_fm {a : List Int} {b : List Int} {u : List Int} {g1 : Nat} {g2 : Nat} {g3 : Nat} {n1 : Nat} {n2 : Nat} {n3 : Nat} {last : Int} {i : Nat} : (nD49 a b u g1 g2 g3 n1 n2 n3 last i).fm = [(1, .var 3 0), (2, .int .i64 (u.getD i 0)), (20, .slice 1 2 g3 0 n3 none), (21, .int .i64 (↑n3 : Int)), (22, .int .i64 ((↑i : Int) + 1))] := by kernel_rfl
theorem nD49_tab {a : List Int} {b : List Int} {u : List Int} {g1 : Nat} {g2 : Nat} {g3 : Nat} {n1 : Nat} {n2 : Nat} {n3 : Nat} {last : Int} {i : Nat} : (nD49 a b u g1 g2 g3 n1 n2 n3 last i).tab = [some ⟨.ints .u8 a, g1, false, 5⟩, some ⟨.ints .u8 b, g2, false, 5⟩, some ⟨.ints .i64 u, g3, false, 3⟩, some ⟨.agg [.slice 1 0 g1 0 n1 none, .slice 1 1 g2 0 n2 none, .slice 1 2 g3 0 n3 none], 0, true,
 47⟩] := by kernel_rfl
noncomputable def nE49 (a : List Int) (b : List Int) (u : List Int) (g1 : Nat) (g2 : Nat) (g3 : Nat) (n1 : Nat) (n2 : Nat) (n3 : Nat) (last : Int) (i : Nat) : Out := trim 4 4 [1,2,20,21,22] (run eM1 36 ⟨4, []⟩ 400 (roundOf 0 f49) [(1, .var 3 0), (2, .int .i64 last), (20, .slice 1 2 g3 0 n3 none), (21, .int .i64 (n3 : Nat)), (22, .int .i64 (i : Nat))] [some ⟨.ints .u8 a, g1, false, 5⟩, some ⟨.ints .u8 b, g2, false, 5⟩, some ⟨.ints .i64 u, g3, false, 3⟩, some ⟨.agg [.slice 1 0 g1 0 n1 none, .slice 1 1 g2 0 n2 none, .slice 1 2 g3 0 n3 none], 0, true, 47⟩] [some false])
theorem nE49_ok {a : List Int} {b : List Int} {u : List Int} {g1 : Nat} {g2 : Nat} {g3 : Nat} {n1 : Nat} {n2 : Nat} {n3 : Nat} {last : Int} {i : Nat} (h : allP [.p (decide ((↑i : Int) < (↑n3 : Int)) = false)]) : Ok (nE49 a b u g1 g2 g3 n1 n2 n3 last i) := Ok.dem (fl := [false]) (by kernel_rfl) (by kernel_rfl) (by kernel_rfl) h
theorem nE49_ex {a : List Int} {b : List Int} {u : List Int} {g1 : Nat} {g2 : Nat} {g3 : Nat} {n1 : Nat} {n2 : Nat} {n3 : Nat} {last : Int} {i : Nat} : (nE49 a b u g1 g2 g3 n1 n2 n3 last i).ex = .exit 0 := by kernel_rfl
theorem nE49_fm {a : List Int} {b : List Int} {u : List Int} {g1 : Nat} {g2 : Nat} {g3 : Nat} {n1 : Nat} {n2 : Nat} {n3 : Nat} {last : Int} {i : Nat} : (nE49 a b u g1 g2 g3 n1 n2 n3 last i).fm = [(1, .var 3 0), (2, .int .i64 last), (20, .slice 1 2 g3 0 n3 none), (21, .int .i64 (↑n3 : Int)), (22, .int .i64 (↑i : Int))] := by kernel_rfl
theorem nE49_tab {a : List Int} {b : List Int} {u : List Int} {g1 : Nat} {g2 : Nat} {g3 : Nat} {n1 : Nat} {n2 : Nat} {n3 : Nat} {last : Int} {i : Nat} : (nE49 a b u g1 g2 g3 n1 n2 n3 last i).tab = [some ⟨.ints .u8 a, g1, false, 5⟩, some ⟨.ints .u8 b, g2, false, 5⟩, some ⟨.ints .i64 u, g3, false, 3⟩, some ⟨.agg [.slice 1 0 g1 0 n1 none, .slice 1 1 g2 0 n2 none, .slice 1 2 g3 0 n3 none], 0, true,
 47⟩] := by kernel_rfl
noncomputable def nQ49 (a : List Int) (b : List Int) (u : List Int) (g1 : Nat) (g2 : Nat) (g3 : Nat) (n1 : Nat) (n2 : Nat) (n3 : Nat) (last : Int) (i : Nat) : Out := runs eM1 36 ⟨4, []⟩ 400 (frontC 2 (roundOf 0 f49)) [(1, .var 3 0), (2, .int .i64 last), (20, .slice 1 2 g3 0 n3 none), (21, .int .i64 (n3 : Nat)), (22, .int .i64 (i : Nat))] [some ⟨.ints .u8 a, g1, false, 5⟩, some ⟨.ints .u8 b, g2, false, 5⟩, some ⟨.ints .i64 u, g3, false, 3⟩, some ⟨.agg [.slice 1 0 g1 0 n1 none, .slice 1 1 g2 0 n2 none, .slice 1 2 g3 0 n3 none], 0, true, 47⟩] [some true]
theorem nQ49_ok {a : List Int} {b : List Int} {u : List Int} {g1 : Nat} {g2 : Nat} {g3 : Nat} {n1 : Nat} {n2 : Nat} {n3 : Nat} {last : Int} {i : Nat} (h : allP [.p (decide ((↑i : Int) < (↑n3 : Int)) = true)]) : Ok (nQ49 a b u g1 g2 g3 n1 n2 n3 last i) := Ok.dem (fl := [false]) (by kernel_rfl) (by kernel_rfl) (by kernel_rfl) h
theorem nQ49_ex {a : List Int} {b : List Int} {u : List Int} {g1 : Nat} {g2 : Nat} {g3 : Nat} {n1 : Nat} {n2 : Nat} {n3 : Nat} {last : Int} {i : Nat} : (nQ49 a b u g1 g2 g3 n1 n2 n3 last i).ex = .normal := by kernel_rfl
theorem nQ49_fm {a : List Int} {b : List Int} {u : List Int} {g1 : Nat} {g2 : Nat} {g3 : Nat} {n1 : Nat} {n2 : Nat} {n3 : Nat} {last : Int} {i : Nat} : (nQ49 a b u g1 g2 g3 n1 n2 n3 last i).fm = [(23, .bool true), (1, .var 3 0), (2, .int .i64 last), (20, .slice 1 2 g3 0 n3 none), (21, .int .i64 (↑n3 : Int)), (22, .int .i64 (↑i : Int))] := by kernel_rfl
theorem nQ49_tab {a : List Int} {b : List Int} {u : List Int} {g1 : Nat} {g2 : Nat} {g3 : Nat} {n1 : Nat} {n2 : Nat} {n3 : Nat} {last : Int} {i : Nat} : (nQ49 a b u g1 g2 g3 n1 n2 n3 last i).tab = [some ⟨.ints .u8 a, g1, false, 5⟩, some ⟨.ints .u8 b, g2, false, 5⟩, some ⟨.ints .i64 u, g3, false, 3⟩, some ⟨.agg [.slice 1 0 g1 0 n1 none, .slice 1 1 g2 0 n2 none, .slice 1 2 g3 0 n3 none], 0, true,
 47⟩] := by kernel_rfl
noncomputable def nP49a (a : List Int) (b : List Int) (u : List Int) (g1 : Nat) (g2 : Nat) (g3 : Nat) (n1 : Nat) (n2 : Nat) (n3 : Nat) (last : Int) (i : Nat) : Out := panicRun eM1 psN1 36 4 400 1 in49 [(23, .bool true), (1, .var 3 0), (2, .int .i64 last), (20, .slice 1 2 g3 0 n3 none), (21, .int .i64 (n3 : Nat)), (22, .int .i64 (i : Nat))] [some ⟨.ints .u8 a, g1, false, 5⟩, some ⟨.ints .u8 b, g2, false, 5⟩, some ⟨.ints .i64 u, g3, false, 3⟩, some ⟨.agg [.slice 1 0 g1 0 n1 none, .slice 1 1 g2 0 n2 none, .slice 1 2 g3 0 n3 none], 0, true, 47⟩] [some false]
theorem nP49a_ok {a : List Int} {b : List Int} {u : List Int} {g1 : Nat} {g2 : Nat} {g3 : Nat} {n1 : Nat} {n2 : Nat} {n3 : Nat} {last : Int} {i : Nat} (h : allP [.eqN g3 g3, .leI 0 (↑i : Int), .leI ((↑i : Int) + 1) (↑n3 : Int), .eqN g3 g3, .leN (i + 1) u.length, .p (decide (last < u.getD i 0) = false)]) : Ok (nP49a a b u g1 g2 g3 n1 n2 n3 last i) := Ok.dem (fl := [false, false, false, false, false,
 false]) (by kernel_rfl) (by kernel_rfl) (by kernel_rfl) h
noncomputable def nP49b (a : List Int) (b : List Int) (u : List Int) (g1 : Nat) (g2 : Nat) (g3 : Nat) (n1 : Nat) (n2 : Nat) (n3 : Nat) (last : Int) (i : Nat) : Out := panicRun eM1 psN1 36 4 400 1 in49 [(23, .bool true), (1, .var 3 0), (2, .int .i64 last), (20, .slice 1 2 g3 0 n3 none), (21, .int .i64 (n3 : Nat)), (22, .int .i64 (i : Nat))] [some ⟨.ints .u8 a, g1, false, 5⟩, some ⟨.ints .u8 b, g2, false, 5⟩, some ⟨.ints .i64 u, g3, false, 3⟩, some ⟨.agg [.slice 1 0 g1 0 n1 none, .slice 1 1 g2 0 n2 none, .slice 1 2 g3 0 n3 none], 0, true, 47⟩] [some true, some false]
theorem nP49b_ok {a : List Int} {b : List Int} {u : List Int} {g1 : Nat} {g2 : Nat} {g3 : Nat} {n1 : Nat} {n2 : Nat} {n3 : Nat} {last : Int} {i : Nat} (h : allP [.eqN g3 g3, .leI 0 (↑i : Int), .leI ((↑i : Int) + 1) (↑n3 : Int), .eqN g3 g3, .leN (i + 1) u.length, .p (decide (last < u.getD i 0) = true), .p (decide (u.getD i 0 < 64) = false)]) : Ok (nP49b a b u g1 g2 g3 n1 n2 n3 last i) := Ok.dem (fl
 := [false, false, false, false, false, false, false]) (by kernel_rfl) (by kernel_rfl) (by kernel_rfl) h
noncomputable def nP49fa (a : List Int) (b : List Int) (u : List Int) (g1 : Nat) (g2 : Nat) (g3 : Nat) (n1 : Nat) (n2 : Nat) (n3 : Nat) : Res := fnRunP eM1 psN1 f49 400 1 [.agg [.slice 1 0 g1 0 n1 none, .slice 1 1 g2 0 n2 none, .slice 1 2 g3 0 n3 none]] [some ⟨.ints .u8 a, g1, false, 5⟩, some ⟨.ints .u8 b, g2, false, 5⟩, some ⟨.ints .i64 u, g3, false, 3⟩] []
theorem nP49fa_ok {a : List Int} {b : List Int} {u : List Int} {g1 : Nat} {g2 : Nat} {g3 : Nat} {n1 : Nat} {n2 : Nat} {n3 : Nat} (h : allP [.eqN g1 g1, .eqN g1 g1, .p (((↑n1 : Int) == 32) = false)]) : OkR (nP49fa a b u g1 g2 g3 n1 n2 n3) := OkR.dem (fl := [true, true, true, false, false, false]) (by kernel_rfl) (by kernel_rfl) (by kernel_rfl) h
theorem nP49fa_val {a : List Int} {b : List Int} {u : List Int} {g1 : Nat} {g2 : Nat} {g3 : Nat} {n1 : Nat} {n2 : Nat} {n3 : Nat} : (nP49fa a b u g1 g2 g3 n1 n2 n3).val = .iface 28 (.int .i64 1) := by kernel_rfl
theorem nP49fa_tab {a : List Int} {b : List Int} {u : List Int} {g1 : Nat} {g2 : Nat} {g3 : Nat} {n1 : Nat} {n2 : Nat} {n3 : Nat} : (nP49fa a b u g1 g2 g3 n1 n2 n3).tab = [some ⟨.ints .u8 a, g1, false, 5⟩, some ⟨.ints .u8 b, g2, false, 5⟩, some ⟨.ints .i64 u, g3, false, 3⟩, some ⟨.agg [.slice 1 0 g1 0 n1 none, .slice 1 1 g2 0 n2 none, .slice 1 2 g3 0 n3 none], 0, true, 47⟩] := by kernel_rfl
noncomputable def nP49fb (a : List Int) (b : List Int) (u : List Int) (g1 : Nat) (g2 : Nat) (g3 : Nat) (n1 : Nat) (n2 : Nat) (n3 : Nat) : Res := fnRunP eM1 psN1 f49 400 2 [.agg [.slice 1 0 g1 0 n1 none, .slice 1 1 g2 0 n2 none, .slice 1 2 g3 0 n3 none]] [some ⟨.ints .u8 a, g1, false, 5⟩, some ⟨.ints .u8 b, g2, false, 5⟩, some ⟨.ints .i64 u, g3, false, 3⟩] [some false, some false]
theorem nP49fb_ok {a : List Int} {b : List Int} {u : List Int} {g1 : Nat} {g2 : Nat} {g3 : Nat} {n1 : Nat} {n2 : Nat} {n3 : Nat} (h : allP [.eqN g1 g1, .eqN g1 g1, .p (((↑n1 : Int) == 32) = true), .eqN g2 g2, .p (((↑n2 : Int) == 0) = false), .eqN g2 g2, .p (((↑n2 : Int) == 32) = false)]) : OkR (nP49fb a b u g1 g2 g3 n1 n2 n3) := OkR.dem (fl := bitsF 16 14791) (by kernel_rfl) (by kernel_rfl) (by
 kernel_rfl) h
theorem nP49fb_val {a : List Int} {b : List Int} {u : List Int} {g1 : Nat} {g2 : Nat} {g3 : Nat} {n1 : Nat} {n2 : Nat} {n3 : Nat} : (nP49fb a b u g1 g2 g3 n1 n2 n3).val = .iface 28 (.int .i64 1) := by kernel_rfl
theorem nP49fb_tab {a : List Int} {b : List Int} {u : List Int} {g1 : Nat} {g2 : Nat} {g3 : Nat} {n1 : Nat} {n2 : Nat} {n3 : Nat} : (nP49fb a b u g1 g2 g3 n1 n2 n3).tab = [some ⟨.ints .u8 a, g1, false, 5⟩, some ⟨.ints .u8 b, g2, false, 5⟩, some ⟨.ints .i64 u, g3, false, 3⟩, some ⟨.agg [.slice 1 0 g1 0 n1 none, .slice 1 1 g2 0 n2 none, .slice 1 2 g3 0 n3 none], 0, true, 47⟩] := by kernel_rfl
def F49 (u : List Int) (g3 i : Nat) : Fm := [(1, .var 3 0), (2, .int .i64 (lastLaw u i)), (20, .slice 1 2 g3 0 u.length none), (21, .int .i64 (u.length : Nat)), (22, .int .i64 ((i : Nat) : Int))]
theorem rd49 {a b u : List Int} {g1 g2 g3 n1 n2 : Nat} {i : Nat} (hl : u.length ≤ 140737488355000) (hi : i < u.length) (h : StepU u i) : To eM1 36 4 (roundOf 0 f49) (F49 u g3 i) [some ⟨.ints .u8 a, g1, false, 5⟩, some ⟨.ints .u8 b, g2, false, 5⟩, some ⟨.ints .i64 u, g3, false, 3⟩, some ⟨.agg [.slice 1 0 g1 0 n1 none, .slice 1 1 g2 0 n2 none, .slice 1 2 g3 0 u.length none], 0, true, 47⟩] .normal (F49 u g3 (i + 1)) [some ⟨.ints .u8 a, g1, false, 5⟩, some ⟨.ints .u8 b, g2, false, 5⟩, some ⟨.ints .i64 u, g3, false, 3⟩, some ⟨.agg [.slice 1 0 g1 0 n1 none, .slice 1 1 g2 0 n2 none, .slice 1 2 g3 0 u.length none], 0, true, 47⟩] := by
  obtain ⟨h1, h2⟩ := h
  refine To.of (o := nD49 a b u g1 g2 g3 n1 n2 u.length (lastLaw u i) i) eM1_ok hmN (Nat.le_refl 4) OrcOk.nil rfl (nD49_ok (by
    simp only [allP, Con.h, eq_self, true_and, and_true, beq_iff_eq, beq_eq_false_iff_ne, ne_eq, decide_eq_true_eq, decide_eq_false_iff_not]
    omega)) nD49_ex ?_ nD49_tab
  rw [nD49_fm]
  unfold F49
  rfl
theorem rx49 {a b u : List Int} {g1 g2 g3 n1 n2 : Nat} : To eM1 36 4 (roundOf 0 f49) (F49 u g3 u.length) [some ⟨.ints .u8 a, g1, false, 5⟩, some ⟨.ints .u8 b, g2, false, 5⟩, some ⟨.ints .i64 u, g3, false, 3⟩, some ⟨.agg [.slice 1 0 g1 0 n1 none, .slice 1 1 g2 0 n2 none, .slice 1 2 g3 0 u.length none], 0, true, 47⟩] (.exit 0) (F49 u g3 u.length) [some ⟨.ints .u8 a, g1, false, 5⟩, some ⟨.ints .u8 b, g2, false, 5⟩, some ⟨.ints .i64 u, g3, false, 3⟩, some ⟨.agg [.slice 1 0 g1 0 n1 none, .slice 1 1 g2 0 n2 none, .slice 1 2 g3 0 u.length none], 0, true, 47⟩] := by
  refine To.of (o := nE49 a b u g1 g2 g3 n1 n2 u.length (lastLaw u u.length) u.length) eM1_ok hmN (Nat.le_refl 4) OrcOk.nil rfl (nE49_ok (by
    simp only [allP, Con.h, eq_self, true_and, and_true, beq_iff_eq, beq_eq_false_iff_ne, ne_eq, decide_eq_true_eq, decide_eq_false_iff_not]
    omega)) nE49_ex nE49_fm nE49_tab
theorem rp49 {a b u : List Int} {g1 g2 g3 n1 n2 : Nat} {i : Nat} (hi : i < u.length) (h : ¬ StepU u i) : AWp eM1 36 4 (roundOf 0 f49) (F49 u g3 i) [some ⟨.ints .u8 a, g1, false, 5⟩, some ⟨.ints .u8 b, g2, false, 5⟩, some ⟨.ints .i64 u, g3, false, 3⟩, some ⟨.agg [.slice 1 0 g1 0 n1 none, .slice 1 1 g2 0 n2 none, .slice 1 2 g3 0 u.length none], 0, true, 47⟩] fun ex fm T => ex = .panic 28 .i64 1 ∧ T = [some ⟨.ints .u8 a, g1, false, 5⟩, some ⟨.ints .u8 b, g2, false, 5⟩, some ⟨.ints .i64 u, g3, false, 3⟩, some ⟨.agg [.slice 1 0 g1 0 n1 none, .slice 1 1 g2 0 n2 none, .slice 1 2 g3 0 u.length none], 0, true, 47⟩] := by
  refine AWp.cut eM1_ok hmN 2 (o := nQ49 a b u g1 g2 g3 n1 n2 u.length (lastLaw u i) i) rfl (nQ49_ok (by
    simp only [allP, Con.h, eq_self, true_and, and_true, beq_iff_eq, beq_eq_false_iff_ne, ne_eq, decide_eq_true_eq, decide_eq_false_iff_not]
    omega)) nQ49_ex ?_
  rw [nQ49_fm, nQ49_tab, split49r]
  refine AWp.seq (AWp.block ?_)
  by_cases h1 : lastLaw u i < u.getD i 0
  · have h2 : ¬ u.getD i 0 < 64 := fun h2 => h ⟨h1, h2⟩
    exact AWp.panics (o := nP49b a b u g1 g2 g3 n1 n2 u.length (lastLaw u i) i) eM1_ok hmN psN1_ok rfl (nP49b_ok (by
      simp only [allP, Con.h, eq_self, true_and, and_true, beq_iff_eq, beq_eq_false_iff_ne, ne_eq, decide_eq_true_eq, decide_eq_false_iff_not]
      omega)) rfl ⟨rfl, rfl⟩
  · exact AWp.panics (o := nP49a a b u g1 g2 g3 n1 n2 u.length (lastLaw u i) i) eM1_ok hmN psN1_ok rfl (nP49a_ok (by
      simp only [allP, Con.h, eq_self, true_and, and_true, beq_iff_eq, beq_eq_false_iff_ne, ne_eq, decide_eq_true_eq, decide_eq_false_iff_not]
      omega)) rfl ⟨rfl, rfl⟩
noncomputable def nsm49c (args : List AVal) (T : Tab) (a : List Int) (b : List Int) (u : List Int) (g1 : Nat) (g2 : Nat) (g3 : Nat) (n1 : Nat) (n2 : Nat) (n3 : Nat) : Res := ⟨[.tab T [some ⟨.ints .u8 a, g1, false, 5⟩, some ⟨.ints .u8 b, g2, false, 5⟩, some ⟨.ints .i64 u, g3, false, 3⟩], .val (.tuple args) (.tuple [.agg [.slice 1 0 g1 0 n1 none, .slice 1 1 g2 0 n2 none, .slice 1 2 g3 0 n3 none]]), .eqN n3 u.length, .leN n3 140737488355000, .p (RightU n1 n2 u)], un, [some ⟨.ints .u8 a, g1, false, 5⟩, some ⟨.ints .u8 b, g2, false, 5⟩, some ⟨.ints .i64 u, g3, false, 3⟩]⟩
theorem nsm49c_ok {args : List AVal} {T : Tab} {a : List Int} {b : List Int} {u : List Int} {g1 : Nat} {g2 : Nat} {g3 : Nat} {n1 : Nat} {n2 : Nat} {n3 : Nat} (h : allP (nsm49c args T a b u g1 g2 g3 n1 n2 n3).cs) : Small prog (fun _ => none) 49 args T (nsm49c args T a b u g1 g2 g3 n1 n2 n3).val (nsm49c args T a b u g1 g2 g3 n1 n2 n3).tab := by
  obtain ⟨hT, hv, h1, h2, h3, _⟩ := h
  simp only [Con.h] at hT hv h1 h2 h3
  injection hv with hv
  subst hT hv
  show Small prog (fun _ => none) 49 [.agg [.slice 1 0 g1 0 n1 none, .slice 1 1 g2 0 n2 none, .slice 1 2 g3 0 n3 none]] [some ⟨.ints .u8 a, g1, false, 5⟩, some ⟨.ints .u8 b, g2, false, 5⟩, some ⟨.ints .i64 u, g3, false, 3⟩] (un) [some ⟨.ints .u8 a, g1, false, 5⟩, some ⟨.ints .u8 b, g2, false, 5⟩, some ⟨.ints .i64 u, g3, false, 3⟩]
  subst h1
  have h3 : RightU n1 n2 u := h3
  obtain ⟨q1, q2, q3⟩ := h3
  have hB : To eM1 36 4 (.block 0 (.loop (roundOf 0 f49))) (F49 u g3 0) [some ⟨.ints .u8 a, g1, false, 5⟩, some ⟨.ints .u8 b, g2, false, 5⟩, some ⟨.ints .i64 u, g3, false, 3⟩, some ⟨.agg [.slice 1 0 g1 0 n1 none, .slice 1 1 g2 0 n2 none, .slice 1 2 g3 0 u.length none], 0, true, 47⟩] .normal (F49 u g3 u.length) [some ⟨.ints .u8 a, g1, false, 5⟩, some ⟨.ints .u8 b, g2, false, 5⟩, some ⟨.ints .i64 u, g3, false, 3⟩, some ⟨.agg [.slice 1 0 g1 0 n1 none, .slice 1 1 g2 0 n2 none, .slice 1 2 g3 0 u.length none], 0, true, 47⟩] := To.rounds (F49 u g3) (fun _ => [some ⟨.ints .u8 a, g1, false, 5⟩, some ⟨.ints .u8 b, g2, false, 5⟩, some ⟨.ints .i64 u, g3, false, 3⟩, some ⟨.agg [.slice 1 0 g1 0 n1 none, .slice 1 1 g2 0 n2 none, .slice 1 2 g3 0 u.length none], 0, true, 47⟩]) u.length (fun i hi => rd49 h2 hi (q3 i hi)) rx49
  refine small_drop (T1 := [some ⟨.ints .u8 a, g1, false, 5⟩, some ⟨.ints .u8 b, g2, false, 5⟩, some ⟨.ints .i64 u, g3, false, 3⟩, some ⟨.agg [.slice 1 0 g1 0 n1 none, .slice 1 1 g2 0 n2 none, .slice 1 2 g3 0 u.length none], 0, true, 47⟩]) (small_of_awp eM1_ok (f := 49) (fn := f49) (c := bodyOf f49) (by kernel_rfl) (by kernel_rfl) (by kernel_rfl) ?_)
  have hW : AWp eM1 36 3 (bodyOf f49) (argF [.agg [.slice 1 0 g1 0 n1 none, .slice 1 1 g2 0 n2 none, .slice 1 2 g3 0 u.length none]] 0) [some ⟨.ints .u8 a, g1, false, 5⟩, some ⟨.ints .u8 b, g2, false, 5⟩, some ⟨.ints .i64 u, g3, false, 3⟩] fun ex fm T => (ex = .normal ∨ ex = .ret) ∧ T = [some ⟨.ints .u8 a, g1, false, 5⟩, some ⟨.ints .u8 b, g2, false, 5⟩, some ⟨.ints .i64 u, g3, false, 3⟩, some ⟨.agg [.slice 1 0 g1 0 n1 none, .slice 1 1 g2 0 n2 none, .slice 1 2 g3 0 u.length none], 0, true, 47⟩] ∧ ∃ cs us, aRes eM1 fm T f49.results.toList = some (cs, us) ∧ allP cs ∧ retV us = un := by
    rcases q2 with q2 | q2
    · refine AWp.cutN eM1_ok hmN 5 (o := nF49y a b u g1 g2 g3 n1 n2 u.length) rfl (nF49y_ok (by
        simp only [allP, Con.h, eq_self, true_and, and_true, beq_iff_eq, beq_eq_false_iff_ne, ne_eq, decide_eq_true_eq, decide_eq_false_iff_not]
        omega)) nF49y_ex ?_
      rw [nF49y_fm, nF49y_tab, split49]
      
      exact (AWp.base (by decide) hB).mono fun ex fm T ⟨e1, e2, e3⟩ => ⟨.inl e1, e3, [], [], by subst e2; kernel_rfl, trivial, rfl⟩
    · refine AWp.cutN eM1_ok hmN 5 (o := nF49n a b u g1 g2 g3 n1 n2 u.length) rfl (nF49n_ok (by
        simp only [allP, Con.h, eq_self, true_and, and_true, beq_iff_eq, beq_eq_false_iff_ne, ne_eq, decide_eq_true_eq, decide_eq_false_iff_not]
        omega)) nF49n_ex ?_
      rw [nF49n_fm, nF49n_tab, split49]
      
      exact (AWp.base (by decide) hB).mono fun ex fm T ⟨e1, e2, e3⟩ => ⟨.inl e1, e3, [], [], by subst e2; kernel_rfl, trivial, rfl⟩
  exact hW
noncomputable def nsm49 : Summary := fun args T => nsm49c args T (xsAt T 0) (xsAt T 1) (xsAt T 2) (gAt T 0) (gAt T 1) (gAt T 2) (lenOf ((vAt args 0).get 0)) (lenOf ((vAt args 0).get 1)) (lenOf ((vAt args 0).get 2))
theorem nsm49_ok : SmOk prog (fun _ => none) 49 nsm49 := fun args T h => nsm49c_ok h
noncomputable def nS49 : Summary := callR nsm49 []
theorem nS49_ok : SumOk prog (fun _ => none) 49 nS49 := callR_ok nsm49_ok []
noncomputable def nsm49pc (args : List AVal) (T : Tab) (a : List Int) (b : List Int) (u : List Int) (g1 : Nat) (g2 : Nat) (g3 : Nat) (n1 : Nat) (n2 : Nat) (n3 : Nat) : Res := ⟨[.tab T [some ⟨.ints .u8 a, g1, false, 5⟩, some ⟨.ints .u8 b, g2, false, 5⟩, some ⟨.ints .i64 u, g3, false, 3⟩], .val (.tuple args) (.tuple [.agg [.slice 1 0 g1 0 n1 none, .slice 1 1 g2 0 n2 none, .slice 1 2 g3 0 n3 none]]), .eqN n3 u.length, .leN n3 140737488355000, .p (¬ RightU n1 n2 u)], (.iface 28 (.int .i64 1)), [some ⟨.ints .u8 a, g1, false, 5⟩, some ⟨.ints .u8 b, g2, false, 5⟩, some ⟨.ints .i64 u, g3, false, 3⟩]⟩
theorem nsm49pc_ok {args : List AVal} {T : Tab} {a : List Int} {b : List Int} {u : List Int} {g1 : Nat} {g2 : Nat} {g3 : Nat} {n1 : Nat} {n2 : Nat} {n3 : Nat} (h : allP (nsm49pc args T a b u g1 g2 g3 n1 n2 n3).cs) : SmallE finP prog (fun _ => none) 49 args T (nsm49pc args T a b u g1 g2 g3 n1 n2 n3).val (nsm49pc args T a b u g1 g2 g3 n1 n2 n3).tab := by
  obtain ⟨hT, hv, h1, h2, h3, _⟩ := h
  simp only [Con.h] at hT hv h1 h2 h3
  injection hv with hv
  subst hT hv
  show SmallE finP prog (fun _ => none) 49 [.agg [.slice 1 0 g1 0 n1 none, .slice 1 1 g2 0 n2 none, .slice 1 2 g3 0 n3 none]] [some ⟨.ints .u8 a, g1, false, 5⟩, some ⟨.ints .u8 b, g2, false, 5⟩, some ⟨.ints .i64 u, g3, false, 3⟩] ((.iface 28 (.int .i64 1))) [some ⟨.ints .u8 a, g1, false, 5⟩, some ⟨.ints .u8 b, g2, false, 5⟩, some ⟨.ints .i64 u, g3, false, 3⟩]
  have h3 : ¬ RightU n1 n2 u := h3
  unfold RightU at h3
  by_cases qa : n1 = 32
  rotate_left
  · exact small_drop (small_ofP (R := nP49fa a b u g1 g2 g3 n1 n2 n3) eM1_ok hmN psN1_ok (f := 49) (fn := f49) (by kernel_rfl) rfl (nP49fa_ok (by
      simp only [allP, Con.h, eq_self, true_and, and_true, beq_iff_eq, beq_eq_false_iff_ne, ne_eq, decide_eq_true_eq, decide_eq_false_iff_not]
      omega)) nP49fa_val nP49fa_tab)
  by_cases qb : n2 = 0 ∨ n2 = 32
  rotate_left
  · exact small_drop (small_ofP (R := nP49fb a b u g1 g2 g3 n1 n2 n3) eM1_ok hmN psN1_ok (f := 49) (fn := f49) (by kernel_rfl) rfl (nP49fb_ok (by
      simp only [allP, Con.h, eq_self, true_and, and_true, beq_iff_eq, beq_eq_false_iff_ne, ne_eq, decide_eq_true_eq, decide_eq_false_iff_not]
      omega)) nP49fb_val nP49fb_tab)
  subst h1
  have h4 : ¬ RiseU u := fun h => h3 ⟨qa, qb, h⟩
  obtain ⟨k, k1, k2, k3⟩ := least (P := StepU u) h4
  have hB : AWp eM1 36 4 (.block 0 (.loop (roundOf 0 f49))) (F49 u g3 0) [some ⟨.ints .u8 a, g1, false, 5⟩, some ⟨.ints .u8 b, g2, false, 5⟩, some ⟨.ints .i64 u, g3, false, 3⟩, some ⟨.agg [.slice 1 0 g1 0 n1 none, .slice 1 1 g2 0 n2 none, .slice 1 2 g3 0 u.length none], 0, true, 47⟩] fun ex fm T => ex = .panic 28 .i64 1 ∧ T = [some ⟨.ints .u8 a, g1, false, 5⟩, some ⟨.ints .u8 b, g2, false, 5⟩, some ⟨.ints .i64 u, g3, false, 3⟩, some ⟨.agg [.slice 1 0 g1 0 n1 none, .slice 1 1 g2 0 n2 none, .slice 1 2 g3 0 u.length none], 0, true, 47⟩] :=
    AWp.roundsPan (F49 u g3) (fun _ => [some ⟨.ints .u8 a, g1, false, 5⟩, some ⟨.ints .u8 b, g2, false, 5⟩, some ⟨.ints .i64 u, g3, false, 3⟩, some ⟨.agg [.slice 1 0 g1 0 n1 none, .slice 1 1 g2 0 n2 none, .slice 1 2 g3 0 u.length none], 0, true, 47⟩]) k (fun i hi => rd49 h2 (by omega) (k3 i hi)) (rp49 k1 k2)
  have hW : AWp eM1 36 3 (bodyOf f49) (argF [.agg [.slice 1 0 g1 0 n1 none, .slice 1 1 g2 0 n2 none, .slice 1 2 g3 0 u.length none]] 0) [some ⟨.ints .u8 a, g1, false, 5⟩, some ⟨.ints .u8 b, g2, false, 5⟩, some ⟨.ints .i64 u, g3, false, 3⟩] fun ex fm T => ex = .panic 28 .i64 1 ∧ T = [some ⟨.ints .u8 a, g1, false, 5⟩, some ⟨.ints .u8 b, g2, false, 5⟩, some ⟨.ints .i64 u, g3, false, 3⟩, some ⟨.agg [.slice 1 0 g1 0 n1 none, .slice 1 1 g2 0 n2 none, .slice 1 2 g3 0 u.length none], 0, true, 47⟩] := by
    rcases qb with q2 | q2
    · refine AWp.cutN eM1_ok hmN 5 (o := nF49y a b u g1 g2 g3 n1 n2 u.length) rfl (nF49y_ok (by
        simp only [allP, Con.h, eq_self, true_and, and_true, beq_iff_eq, beq_eq_false_iff_ne, ne_eq, decide_eq_true_eq, decide_eq_false_iff_not]
        omega)) nF49y_ex ?_
      rw [nF49y_fm, nF49y_tab, split49]
      
      exact AWp.base (by decide) hB
    · refine AWp.cutN eM1_ok hmN 5 (o := nF49n a b u g1 g2 g3 n1 n2 u.length) rfl (nF49n_ok (by
        simp only [allP, Con.h, eq_self, true_and, and_true, beq_iff_eq, beq_eq_false_iff_ne, ne_eq, decide_eq_true_eq, decide_eq_false_iff_not]
        omega)) nF49n_ex ?_
      rw [nF49n_fm, nF49n_tab, split49]
      
      exact AWp.base (by decide) hB
  exact small_drop (T1 := [some ⟨.ints .u8 a, g1, false, 5⟩, some ⟨.ints .u8 b, g2, false, 5⟩, some ⟨.ints .i64 u, g3, false, 3⟩, some ⟨.agg [.slice 1 0 g1 0 n1 none, .slice 1 1 g2 0 n2 none, .slice 1 2 g3 0 u.length none], 0, true, 47⟩]) (smallP_of_awp eM1_ok (f := 49) (fn := f49) (c := bodyOf f49) (by kernel_rfl) (by kernel_rfl) (by kernel_rfl) hW)
noncomputable def nsm49p : Summary := fun args T => nsm49pc args T (xsAt T 0) (xsAt T 1) (xsAt T 2) (gAt T 0) (gAt T 1) (gAt T 2) (lenOf ((vAt args 0).get 0)) (lenOf ((vAt args 0).get 1)) (lenOf ((vAt args 0).get 2))
theorem nsm49p_ok : SmOkP prog (fun _ => none) 49 nsm49p := fun args T h => nsm49pc_ok h
noncomputable def nP49 : Summary := callR nsm49p []
theorem nP49_ok : SumOkP prog (fun _ => none) 49 nP49 := callR_okP nsm49p_ok []
end Go.Abs

set_option linter.unusedVariables false
set_option linter.unusedSimpArgs false
set_option maxRecDepth 100000
set_option maxHeartbeats 4000000
namespace Go.Abs
open Go.Proofs Go.Proofs.Try
/-! ### a parent, written -/
def puN (u : List Int) : Nat → List Int
  | 0 => []
  | i + 1 => puN u i ++ numLaw (u.getD i 0) 4
def puLaw (u : List Int) : List Int := puN u u.length
theorem puN_len (u : List Int) : ∀ i, (puN u i).length ≤ 8 * i
  | 0 => Nat.le_refl _
  | i + 1 => by
    have := puN_len u i
    have := num_len (u.getD i 0) 4
    rw [puN, List.length_append]
    omega
noncomputable def eM16 : Env := eN0 [(38, nS38), (49, nS49), (70, nS70), (72, nS72)]
theorem eM16_ok : EnvOk eM16 := envOf_ok tysN_ok (SumsOk.cons (fn := f38) nS38_ok (by kernel_rfl) (by kernel_rfl) (by kernel_rfl) (SumsOk.cons (fn := f49) nS49_ok (by kernel_rfl) (by kernel_rfl) (by kernel_rfl) (SumsOk.cons (fn := f70) nS70_ok (by kernel_rfl) (by kernel_rfl) (by kernel_rfl) (SumsOk.cons (fn := f72) nS72_ok (by kernel_rfl) (by kernel_rfl) (by kernel_rfl) trivial))))
noncomputable def psN3 : List (Nat × Summary) := [(49, nP49)]
theorem psN3_ok : PsOk prog (fun _ => none) psN3 := (PsOk.cons (fn := f49) nP49_ok (by kernel_rfl) (by kernel_rfl) (by kernel_rfl) PsOk.nil)
noncomputable def nD21 (a : List Int) (b : List Int) (u : List Int) (g1 : Nat) (g2 : Nat) (g3 : Nat) (n1 : Nat) (n2 : Nat) (n3 : Nat) (X : List Int) (gB i : Nat) : Out := trim 8 8 [1, 2, 3, 4, 12, 13, 14] (run eM16 44 ⟨8, []⟩ 400 (roundOf 0 f21) [(1, .var 3 0), (2, .nilSlice), (3, .var 4 0), (4, .var 5 0), (12, .slice 1 2 g3 0 n3 none), (13, .int .i64 (n3 : Nat)), (14, .int .i64 (i : Nat))] [some ⟨.ints .u8 a, g1, false, 5⟩, some ⟨.ints .u8 b, g2, false, 5⟩, some ⟨.ints .i64 u, g3, false, 3⟩, some ⟨.agg [.slice 1 0 g1 0 n1 none, .slice 1 1 g2 0 n2 none, .slice 1 2 g3 0 n3 none], 0, true, 47⟩, some ⟨.ints .i64 [0], 0, true, 28⟩, some ⟨.agg [.slice 1 6 gB 0 X.length none, .func (.func 70) [] [.var 7 0], .func (.func 72) [] [.var 7 0]], 0, true, 81⟩, some ⟨.ints .u8 X, gB, true, 5⟩, some ⟨.agg [.var 5 0], 0, true, 75⟩] [some true])
theorem nD21_ok {a : List Int} {b : List Int} {u : List Int} {g1 : Nat} {g2 : Nat} {g3 : Nat} {n1 : Nat} {n2 : Nat} {n3 : Nat} {X : List Int} {gB i : Nat} (h : allP [.p (decide ((↑i : Int) < (↑n3 : Int)) = true), .eqN g3 g3, .leI 0 (↑i : Int), .leI ((↑i : Int) + 1) (↑n3 : Int), .eqN g3 g3, .leN (i + 1) u.length, .eqN X.length X.length, .leN X.length 140737488000000, .rng (-9223372036854775808) ((↑i
 : Int) + 1) 9223372036854775807]) : Ok (nD21 a b u g1 g2 g3 n1 n2 n3 X gB i) := Ok.dem (fl := bitsF 16 1984) (by kernel_rfl) (by kernel_rfl) (by kernel_rfl) h
theorem nD21_ex {a : List Int} {b : List Int} {u : List Int} {g1 : Nat} {g2 : Nat} {g3 : Nat} {n1 : Nat} {n2 : Nat} {n3 : Nat} {X : List Int} {gB i : Nat} : (nD21 a b u g1 g2 g3 n1 n2 n3 X gB i).ex = .normal := by kernel_rfl
theorem nD21_fm {a : List Int} {b : List Int} {u : List Int} {g1 : Nat} {g2 : Nat} {g3 : Nat} {n1 : Nat} {n2 : Nat} {n3 : Nat} {X : List Int} {gB i : Nat} : (nD21 a b u g1 g2 g3 n1 n2 n3 X gB i).fm = [(1, .var 3 0), (2, .nilSlice), (3, .var 4 0), (4, .var 5 0), (12, .slice 1 2 g3 0 n3 none), (13, .int .i64 (↑n3 : Int)), (14, .int .i64 ((↑i : Int) + 1))] := by kernel_rfl
theorem nD21_tab {a : List Int} {b : List Int} {u : List Int} {g1 : Nat} {g2 : Nat} {g3 : Nat} {n1 : Nat} {n2 : Nat} {n3 : Nat} {X : List Int} {gB i : Nat} : (nD21 a b u g1 g2 g3 n1 n2 n3 X gB i).tab = [some ⟨.ints .u8 a, g1, false, 5⟩, some ⟨.ints .u8 b, g2, false, 5⟩, some ⟨.ints .i64 u, g3, false, 3⟩, some ⟨.agg [.slice 1 0 g1 0 n1 none, .slice 1 1 g2 0 n2 none, .slice 1 2 g3 0 n3 none], 0,
 true, 47⟩, some ⟨.ints .i64 [0], 0, true, 28⟩, some ⟨.agg [.slice 1 6 (gB + 1) 0 (X ++ numLaw (u.getD i 0) 4).length none, .func (Fn.func 70) [] [.var 7 0], .func (Fn.func 72) [] [.var 7 0]], 0, true, 81⟩, some ⟨.ints .u8 (X ++ numLaw (u.getD i 0) 4), gB + 1, true, 5⟩, some ⟨.agg [.var 5 0], 0, true, 75⟩] := by kernel_rfl
noncomputable def nE21 (a : List Int) (b : List Int) (u : List Int) (g1 : Nat) (g2 : Nat) (g3 : Nat) (n1 : Nat) (n2 : Nat) (n3 : Nat) (X : List Int) (gB i : Nat) : Out := trim 8 8 [1, 2, 3, 4, 12, 13, 14] (run eM16 44 ⟨8, []⟩ 400 (roundOf 0 f21) [(1, .var 3 0), (2, .nilSlice), (3, .var 4 0), (4, .var 5 0), (12, .slice 1 2 g3 0 n3 none), (13, .int .i64 (n3 : Nat)), (14, .int .i64 (i : Nat))] [some ⟨.ints .u8 a, g1, false, 5⟩, some ⟨.ints .u8 b, g2, false, 5⟩, some ⟨.ints .i64 u, g3, false, 3⟩, some ⟨.agg [.slice 1 0 g1 0 n1 none, .slice 1 1 g2 0 n2 none, .slice 1 2 g3 0 n3 none], 0, true, 47⟩, some ⟨.ints .i64 [0], 0, true, 28⟩, some ⟨.agg [.slice 1 6 gB 0 X.length none, .func (.func 70) [] [.var 7 0], .func (.func 72) [] [.var 7 0]], 0, true, 81⟩, some ⟨.ints .u8 X, gB, true, 5⟩, some ⟨.agg [.var 5 0], 0, true, 75⟩] [some false])
theorem nE21_ok {a : List Int} {b : List Int} {u : List Int} {g1 : Nat} {g2 : Nat} {g3 : Nat} {n1 : Nat} {n2 : Nat} {n3 : Nat} {X : List Int} {gB i : Nat} (h : allP [.p (decide ((↑i : Int) < (↑n3 : Int)) = false)]) : Ok (nE21 a b u g1 g2 g3 n1 n2 n3 X gB i) := Ok.dem (fl := [false]) (by kernel_rfl) (by kernel_rfl) (by kernel_rfl) h
theorem nE21_ex {a : List Int} {b : List Int} {u : List Int} {g1 : Nat} {g2 : Nat} {g3 : Nat} {n1 : Nat} {n2 : Nat} {n3 : Nat} {X : List Int} {gB i : Nat} : (nE21 a b u g1 g2 g3 n1 n2 n3 X gB i).ex = .exit 0 := by kernel_rfl
theorem nE21_fm {a : List Int} {b : List Int} {u : List Int} {g1 : Nat} {g2 : Nat} {g3 : Nat} {n1 : Nat} {n2 : Nat} {n3 : Nat} {X : List Int} {gB i : Nat} : (nE21 a b u g1 g2 g3 n1 n2 n3 X gB i).fm = [(1, .var 3 0), (2, .nilSlice), (3, .var 4 0), (4, .var 5 0), (12, .slice 1 2 g3 0 n3 none), (13, .int .i64 (↑n3 : Int)), (14, .int .i64 (↑i : Int))] := by kernel_rfl
theorem nE21_tab {a : List Int} {b : List Int} {u : List Int} {g1 : Nat} {g2 : Nat} {g3 : Nat} {n1 : Nat} {n2 : Nat} {n3 : Nat} {X : List Int} {gB i : Nat} : (nE21 a b u g1 g2 g3 n1 n2 n3 X gB i).tab = [some ⟨.ints .u8 a, g1, false, 5⟩, some ⟨.ints .u8 b, g2, false, 5⟩, some ⟨.ints .i64 u, g3, false, 3⟩, some ⟨.agg [.slice 1 0 g1 0 n1 none, .slice 1 1 g2 0 n2 none, .slice 1 2 g3 0 n3 none], 0,
 true, 47⟩, some ⟨.ints .i64 [0], 0, true, 28⟩, some ⟨.agg [.slice 1 6 gB 0 X.length none, .func (Fn.func 70) [] [.var 7 0], .func (Fn.func 72) [] [.var 7 0]], 0, true, 81⟩, some ⟨.ints .u8 X, gB, true, 5⟩, some ⟨.agg [.var 5 0], 0, true, 75⟩] := by kernel_rfl
theorem loop21 {a b u : List Int} {g1 g2 g3 n1 n2 : Nat} (hl : u.length ≤ 64) : To eM16 44 8 (.block 0 (.loop (roundOf 0 f21))) ([(1, .var 3 0), (2, .nilSlice), (3, .var 4 0), (4, .var 5 0), (12, .slice 1 2 g3 0 u.length none), (13, .int .i64 (u.length : Nat)), (14, .int .i64 ((0 : Nat) : Int))]) ([some ⟨.ints .u8 a, g1, false, 5⟩, some ⟨.ints .u8 b, g2, false, 5⟩, some ⟨.ints .i64 u, g3, false, 3⟩, some ⟨.agg [.slice 1 0 g1 0 n1 none, .slice 1 1 g2 0 n2 none, .slice 1 2 g3 0 u.length none], 0, true, 47⟩, some ⟨.ints .i64 [0], 0, true, 28⟩, some ⟨.agg [.slice 1 6 0 0 (puN u 0).length none, .func (.func 70) [] [.var 7 0], .func (.func 72) [] [.var 7 0]], 0, true, 81⟩, some ⟨.ints .u8 (puN u 0), 0, true, 5⟩, some ⟨.agg [.var 5 0], 0, true, 75⟩]) .normal ([(1, .var 3 0), (2, .nilSlice), (3, .var 4 0), (4, .var 5 0), (12, .slice 1 2 g3 0 u.length none), (13, .int .i64 (u.length : Nat)), (14, .int .i64 ((u.length : Nat) : Int))]) ([some ⟨.ints .u8 a, g1, false, 5⟩, some ⟨.ints .u8 b, g2, false, 5⟩, some ⟨.ints .i64 u, g3, false, 3⟩, some ⟨.agg [.slice 1 0 g1 0 n1 none, .slice 1 1 g2 0 n2 none, .slice 1 2 g3 0 u.length none], 0, true, 47⟩, some ⟨.ints .i64 [0], 0, true, 28⟩, some ⟨.agg [.slice 1 6 u.length 0 (puN u u.length).length none, .func (.func 70) [] [.var 7 0], .func (.func 72) [] [.var 7 0]], 0, true, 81⟩, some ⟨.ints .u8 (puN u u.length), u.length, true, 5⟩, some ⟨.agg [.var 5 0], 0, true, 75⟩]) := by
  refine To.rounds (fun i => [(1, .var 3 0), (2, .nilSlice), (3, .var 4 0), (4, .var 5 0), (12, .slice 1 2 g3 0 u.length none), (13, .int .i64 (u.length : Nat)), (14, .int .i64 ((i : Nat) : Int))]) (fun i => [some ⟨.ints .u8 a, g1, false, 5⟩, some ⟨.ints .u8 b, g2, false, 5⟩, some ⟨.ints .i64 u, g3, false, 3⟩, some ⟨.agg [.slice 1 0 g1 0 n1 none, .slice 1 1 g2 0 n2 none, .slice 1 2 g3 0 u.length none], 0, true, 47⟩, some ⟨.ints .i64 [0], 0, true, 28⟩, some ⟨.agg [.slice 1 6 i 0 (puN u i).length none, .func (.func 70) [] [.var 7 0], .func (.func 72) [] [.var 7 0]], 0, true, 81⟩, some ⟨.ints .u8 (puN u i), i, true, 5⟩, some ⟨.agg [.var 5 0], 0, true, 75⟩]) u.length (fun i hi => ?_) ?_
  · have hx := puN_len u i
    refine To.of (o := nD21 a b u g1 g2 g3 n1 n2 u.length (puN u i) i i) eM16_ok hmN (Nat.le_refl 8) OrcOk.nil rfl (nD21_ok (by
      simp only [allP, Con.h, eq_self, true_and, and_true, beq_iff_eq, beq_eq_false_iff_ne, ne_eq, decide_eq_true_eq, decide_eq_false_iff_not]
      omega)) nD21_ex ?_ ?_
    · rw [nD21_fm]
      rfl
    · rw [nD21_tab]
      rfl
  · exact To.of (o := nE21 a b u g1 g2 g3 n1 n2 u.length (puN u u.length) u.length u.length) eM16_ok hmN (Nat.le_refl 8) OrcOk.nil rfl (nE21_ok (by
      simp only [allP, Con.h, eq_self, true_and, and_true, beq_iff_eq, beq_eq_false_iff_ne, ne_eq, decide_eq_true_eq, decide_eq_false_iff_not]
      omega)) nE21_ex nE21_fm nE21_tab
noncomputable def g21c (vs : List AVal) (T : Tab) (a : List Int) (b : List Int) (u : List Int) (g1 : Nat) (g2 : Nat) (g3 : Nat) (n1 : Nat) (n2 : Nat) (n3 : Nat) : Out := ⟨[.tab T [some ⟨.ints .u8 a, g1, false, 5⟩, some ⟨.ints .u8 b, g2, false, 5⟩, some ⟨.ints .i64 u, g3, false, 3⟩, some ⟨.agg [.slice 1 0 g1 0 n1 none, .slice 1 1 g2 0 n2 none, .slice 1 2 g3 0 n3 none], 0, true, 47⟩, some ⟨.ints .i64 [0], 0, true, 28⟩, some ⟨.agg [.slice 1 6 0 0 0 none, .func (.func 70) [] [.var 7 0], .func (.func 72) [] [.var 7 0]], 0, true, 81⟩, some ⟨.ints .u8 [], 0, true, 5⟩, some ⟨.agg [.var 5 0], 0, true, 75⟩], .val (.tuple vs) (.tuple [.var 3 0, .nilSlice, .var 4 0, .var 5 0, .slice 1 2 g3 0 n3 none, .int .i64 (n3 : Nat), .int .i64 0]), .eqN n3 u.length, .leN n3 64], .normal, [(1, .var 3 0), (2, .nilSlice), (3, .var 4 0), (4, .var 5 0), (12, .slice 1 2 g3 0 n3 none), (13, .int .i64 (n3 : Nat)), (14, .int .i64 (n3 : Nat))], [some ⟨.ints .u8 a, g1, false, 5⟩, some ⟨.ints .u8 b, g2, false, 5⟩, some ⟨.ints .i64 u, g3, false, 3⟩, some ⟨.agg [.slice 1 0 g1 0 n1 none, .slice 1 1 g2 0 n2 none, .slice 1 2 g3 0 n3 none], 0, true, 47⟩, some ⟨.ints .i64 [0], 0, true, 28⟩, some ⟨.agg [.slice 1 6 n3 0 (puLaw u).length none, .func (.func 70) [] [.var 7 0], .func (.func 72) [] [.var 7 0]], 0, true, 81⟩, some ⟨.ints .u8 (puLaw u), n3, true, 5⟩, some ⟨.agg [.var 5 0], 0, true, 75⟩], []⟩
theorem g21c_ok {vs : List AVal} {T : Tab} {a : List Int} {b : List Int} {u : List Int} {g1 : Nat} {g2 : Nat} {g3 : Nat} {n1 : Nat} {n2 : Nat} {n3 : Nat} (h : Ok (g21c vs T a b u g1 g2 g3 n1 n2 n3)) : To eM16 44 8 (.block 0 (.loop (roundOf 0 f21))) (zipF [1, 2, 3, 4, 12, 13, 14] vs) T (g21c vs T a b u g1 g2 g3 n1 n2 n3).ex (g21c vs T a b u g1 g2 g3 n1 n2 n3).fm (g21c vs T a b u g1 g2 g3 n1 n2 n3).tab := by
  obtain ⟨hT, hv, h1, h2, _⟩ := h.h
  simp only [Con.h] at hT hv h1 h2
  injection hv with hv
  subst hT hv
  subst h1
  exact loop21 h2
noncomputable def g21 : List AVal → Tab → Out := fun vs T => g21c vs T (xsAt T 0) (xsAt T 1) (xsAt T 2) (gAt T 0) (gAt T 1) (gAt T 2) (lenOf ((dAt T 3).get 0)) (lenOf ((dAt T 3).get 1)) (lenOf ((dAt T 3).get 2))
theorem g21_ok : BlkOk eM16 f21 0 (.loop (roundOf 0 f21)) (blkS 8 [1, 2, 3, 4, 12, 13, 14] g21) := blkS_ok fun vs T h => g21c_ok h
theorem orc21 : FnOrc eM16 f21 [(0, blkS 8 [1, 2, 3, 4, 12, 13, 14] g21)] := FnOrc.cons g21_ok (by kernel_rfl) FnOrc.nil
noncomputable def nR21g (a : List Int) (b : List Int) (u : List Int) (g1 : Nat) (g2 : Nat) (g3 : Nat) (n1 : Nat) (n2 : Nat) (n3 : Nat) : Res := resG 3 [0, 1, 2, 9] (fnRunD eM16 psN3 f21 [(0, blkS 8 [1, 2, 3, 4, 12, 13, 14] g21)] 400 none 36 28 [.agg [.slice 1 0 g1 0 n1 none, .slice 1 1 g2 0 n2 none, .slice 1 2 g3 0 n3 none]] [some ⟨.ints .u8 a, g1, false, 5⟩, some ⟨.ints .u8 b, g2, false, 5⟩, some ⟨.ints .i64 u, g3, false, 3⟩] [])
theorem nR21g_ok {a : List Int} {b : List Int} {u : List Int} {g1 : Nat} {g2 : Nat} {g3 : Nat} {n1 : Nat} {n2 : Nat} {n3 : Nat} (h : allP [.eqN g1 g1, .eqN g2 g2, .eqN g3 g3, .eqN n3 u.length, .leN n3 140737488355000, .p (n1 = 32 ∧ (n2 = 0 ∨ n2 = 32) ∧ RiseU u), .eqN g3 g3, .eqN n3 u.length, .leN n3 64, .eqN g1 g1, .eqN g2 g2, .eqN n3 n3, .eqN n1 a.length, .eqN n2 b.length, .eqN (puLaw u).length
 (puLaw u).length, .leN n1 65536, .leN n2 65536, .leN (puLaw u).length 65536]) : OkR (nR21g a b u g1 g2 g3 n1 n2 n3) := OkR.dem (fl := bitsF 71 2359742212699357999107) (by kernel_rfl) (by kernel_rfl) (by kernel_rfl) h
theorem nR21g_val {a : List Int} {b : List Int} {u : List Int} {g1 : Nat} {g2 : Nat} {g3 : Nat} {n1 : Nat} {n2 : Nat} {n3 : Nat} : (nR21g a b u g1 g2 g3 n1 n2 n3).val = .tuple [.slice 1 3 1 0 ([] ++ jn3Law a b (puLaw u)).length none, .int .i64 0] := by kernel_rfl
theorem nR21g_tab {a : List Int} {b : List Int} {u : List Int} {g1 : Nat} {g2 : Nat} {g3 : Nat} {n1 : Nat} {n2 : Nat} {n3 : Nat} : (nR21g a b u g1 g2 g3 n1 n2 n3).tab = [some ⟨.ints .u8 a, g1, false, 5⟩, some ⟨.ints .u8 b, g2, false, 5⟩, some ⟨.ints .i64 u, g3, false, 3⟩, some ⟨.ints .u8 ([] ++ jn3Law a b (puLaw u)), 1, true, 5⟩] := by kernel_rfl
noncomputable def nR21b (a : List Int) (b : List Int) (u : List Int) (g1 : Nat) (g2 : Nat) (g3 : Nat) (n1 : Nat) (n2 : Nat) (n3 : Nat) : Res := resG 3 [0, 1, 2] (fnRunD eM16 psN3 f21 [] 400 (some 0) 36 28 [.agg [.slice 1 0 g1 0 n1 none, .slice 1 1 g2 0 n2 none, .slice 1 2 g3 0 n3 none]] [some ⟨.ints .u8 a, g1, false, 5⟩, some ⟨.ints .u8 b, g2, false, 5⟩, some ⟨.ints .i64 u, g3, false, 3⟩] [])
theorem nR21b_ok {a : List Int} {b : List Int} {u : List Int} {g1 : Nat} {g2 : Nat} {g3 : Nat} {n1 : Nat} {n2 : Nat} {n3 : Nat} (h : allP [.eqN g1 g1, .eqN g2 g2, .eqN g3 g3, .eqN n3 u.length, .leN n3 140737488355000, .p ¬(n1 = 32 ∧ (n2 = 0 ∨ n2 = 32) ∧ RiseU u)]) : OkR (nR21b a b u g1 g2 g3 n1 n2 n3) := OkR.dem (fl := bitsF 16 64515) (by kernel_rfl) (by kernel_rfl) (by kernel_rfl) h
theorem nR21b_val {a : List Int} {b : List Int} {u : List Int} {g1 : Nat} {g2 : Nat} {g3 : Nat} {n1 : Nat} {n2 : Nat} {n3 : Nat} : (nR21b a b u g1 g2 g3 n1 n2 n3).val = .tuple [.nilSlice, .int .i64 1] := by kernel_rfl
theorem nR21b_tab {a : List Int} {b : List Int} {u : List Int} {g1 : Nat} {g2 : Nat} {g3 : Nat} {n1 : Nat} {n2 : Nat} {n3 : Nat} : (nR21b a b u g1 g2 g3 n1 n2 n3).tab = [some ⟨.ints .u8 a, g1, false, 5⟩, some ⟨.ints .u8 b, g2, false, 5⟩, some ⟨.ints .i64 u, g3, false, 3⟩] := by kernel_rfl
def RightPa (a b u : List Int) : Prop := RightU a.length b.length u
instance (a b u : List Int) : Decidable (RightPa a b u) := by unfold RightPa; exact inferInstance
def ppBLaw (a b u : List Int) : List Int := if RightPa a b u then jn3Law a b (puLaw u) else []
def ppELaw (a b u : List Int) : Int := if RightPa a b u then 0 else 1
def ppGLaw (a b u : List Int) : Nat := if RightPa a b u then 1 else 0
theorem pp_in {a b u : List Int} (h : RightPa a b u) : ppBLaw a b u = jn3Law a b (puLaw u) ∧ ppELaw a b u = 0 ∧ ppGLaw a b u = 1 := ⟨if_pos h, if_pos h, if_pos h⟩
theorem pp_out {a b u : List Int} (h : ¬ RightPa a b u) : ppBLaw a b u = [] ∧ ppELaw a b u = 1 ∧ ppGLaw a b u = 0 := ⟨if_neg h, if_neg h, if_neg h⟩
noncomputable def nsm21c (args : List AVal) (T : Tab) (a : List Int) (b : List Int) (u : List Int) (g1 : Nat) (g2 : Nat) (g3 : Nat) (n1 : Nat) (n2 : Nat) (n3 : Nat) : Res := ⟨[.tab T [some ⟨.ints .u8 a, g1, false, 5⟩, some ⟨.ints .u8 b, g2, false, 5⟩, some ⟨.ints .i64 u, g3, false, 3⟩], .val (.tuple args) (.tuple [.agg [.slice 1 0 g1 0 n1 none, .slice 1 1 g2 0 n2 none, .slice 1 2 g3 0 n3 none]]), .eqN n1 a.length, .eqN n2 b.length, .eqN n3 u.length, .leN n3 140737488355000], .tuple [.slice 1 3 (ppGLaw a b u) 0 (ppBLaw a b u).length none, .int .i64 (ppELaw a b u)], [some ⟨.ints .u8 a, g1, false, 5⟩, some ⟨.ints .u8 b, g2, false, 5⟩, some ⟨.ints .i64 u, g3, false, 3⟩, some ⟨.ints .u8 (ppBLaw a b u), (ppGLaw a b u), true, 5⟩]⟩
theorem nsm21c_ok {args : List AVal} {T : Tab} {a : List Int} {b : List Int} {u : List Int} {g1 : Nat} {g2 : Nat} {g3 : Nat} {n1 : Nat} {n2 : Nat} {n3 : Nat} (h : allP (nsm21c args T a b u g1 g2 g3 n1 n2 n3).cs) : Small prog (fun _ => none) 21 args T (nsm21c args T a b u g1 g2 g3 n1 n2 n3).val (nsm21c args T a b u g1 g2 g3 n1 n2 n3).tab := by
  obtain ⟨hT, hv, h1, h2, h3, h4, _⟩ := h
  simp only [Con.h] at hT hv h1 h2 h3 h4
  injection hv with hv
  subst hT hv
  show Small prog (fun _ => none) 21 [.agg [.slice 1 0 g1 0 n1 none, .slice 1 1 g2 0 n2 none, .slice 1 2 g3 0 n3 none]] [some ⟨.ints .u8 a, g1, false, 5⟩, some ⟨.ints .u8 b, g2, false, 5⟩, some ⟨.ints .i64 u, g3, false, 3⟩] (.tuple [.slice 1 3 (ppGLaw a b u) 0 (ppBLaw a b u).length none, .int .i64 (ppELaw a b u)]) [some ⟨.ints .u8 a, g1, false, 5⟩, some ⟨.ints .u8 b, g2, false, 5⟩, some ⟨.ints .i64 u, g3, false, 3⟩, some ⟨.ints .u8 (ppBLaw a b u), (ppGLaw a b u), true, 5⟩]
  subst h1 h2 h3
  by_cases hR : RightPa a b u
  · rw [(pp_in hR).1, (pp_in hR).2.1, (pp_in hR).2.2]
    have hR' := hR
    obtain ⟨q1, q2, q3⟩ := hR'
    have hl := rise_len q3
    have hp : (puLaw u).length ≤ 8 * u.length := puN_len u u.length
    refine small_ofDG (R := nR21g a b u g1 g2 g3 a.length b.length u.length) eM16_ok hmN psN3_ok (f := 21) (fn := f21) (by kernel_rfl) (by kernel_rfl) orc21 (gfn := f36) (by kernel_rfl) (by kernel_rfl) (by kernel_rfl) caughtN rfl (nR21g_ok ?_) ?_ ?_
    · simp only [allP, Con.h, eq_self, true_and, and_true, beq_iff_eq, beq_eq_false_iff_ne, ne_eq, decide_eq_true_eq, decide_eq_false_iff_not, List.nil_append, List.take_length]
      exact ⟨by omega, ⟨q1, q2, q3⟩, by omega, by omega, by omega, by omega⟩
    · rw [nR21g_val, List.nil_append]
    · rw [nR21g_tab, List.nil_append]
  · rw [(pp_out hR).1, (pp_out hR).2.1, (pp_out hR).2.2]
    exact small_nil2 .u8 5 (.inr rfl) (small_ofDG (R := nR21b a b u g1 g2 g3 a.length b.length u.length) eM16_ok hmN psN3_ok (f := 21) (fn := f21) (by kernel_rfl) (by kernel_rfl) FnOrc.nil (gfn := f36) (by kernel_rfl) (by kernel_rfl) (by kernel_rfl) caughtN rfl (nR21b_ok (by
      simp only [allP, Con.h, eq_self, true_and, and_true, beq_iff_eq, beq_eq_false_iff_ne, ne_eq, decide_eq_true_eq, decide_eq_false_iff_not]
      exact ⟨h4, hR⟩)) nR21b_val nR21b_tab) (by simp)
noncomputable def nsm21 : Summary := fun args T => nsm21c args T (xsAt T 0) (xsAt T 1) (xsAt T 2) (gAt T 0) (gAt T 1) (gAt T 2) (lenOf ((vAt args 0).get 0)) (lenOf ((vAt args 0).get 1)) (lenOf ((vAt args 0).get 2))
theorem nsm21_ok : SmOk prog (fun _ => none) 21 nsm21 := fun args T h => nsm21c_ok h
noncomputable def nS21 : Summary := callR nsm21 []
theorem nS21_ok : SumOk prog (fun _ => none) 21 nS21 := callR_ok nsm21_ok _
end Go.Abs

set_option linter.unusedVariables false
set_option linter.unusedSimpArgs false
set_option maxRecDepth 100000
set_option maxHeartbeats 4000000
namespace Go.Abs
open Go.Proofs Go.Proofs.Try
theorem take_get {u : List Int} {n i : Nat} (h : i < n) : (List.take n u).getD i 0 = u.getD i 0 := by
  simp [List.getD_eq_getElem?_getD, List.getElem?_take, h]
end Go.Abs

set_option linter.unusedVariables false
set_option linter.unusedSimpArgs false
set_option maxRecDepth 100000
set_option maxHeartbeats 4000000
namespace Go.Abs
open Go.Proofs Go.Proofs.Try
end Go.Abs

set_option linter.unusedVariables false
set_option linter.unusedSimpArgs false
set_option maxRecDepth 100000
set_option maxHeartbeats 4000000
namespace Go.Abs
open Go.Proofs Go.Proofs.Try
/-! ### a list of numbers, read chunk by chunk -/
def theCall (o : Oper) : Call := match o.op with | .call c => c | _ => { callee := .value (.tmp 0), args := #[], argTypes := #[] }
def rfAssign : Code → Code
  | .rangeFunc _ _ a _ => a
  | c => c
def rfBody : Code → Code
  | .rangeFunc _ _ _ b => b
  | c => c
noncomputable def rf23 : Code := blkC (sndC (fstC (backC 3 (bodyOf f23))))
noncomputable def as23 : Code := rfAssign rf23
noncomputable def bd23 : Code := rfBody rf23
noncomputable def nS53 : Summary := sumI modeO (eN0 []) f53 [] 100 [some false] []
theorem nS53_ok : SumOk prog (fun _ => none) 53 nS53 := sumI_ok eN0_ok hmN (fn := f53) (by kernel_rfl) (by kernel_rfl) [] FnOrc.nil 100 [some false] []
noncomputable def eG6 : Env := eN0 [(42, S23r), (52, S29r), (53, nS53), (54, S25r)]
theorem eG6_ok : EnvOk eG6 := envOf_ok tysN_ok (SumsOk.cons (fn := f42) S23r_ok (by kernel_rfl) (by kernel_rfl) (by kernel_rfl) (SumsOk.cons (fn := f52) S29r_ok (by kernel_rfl) (by kernel_rfl) (by kernel_rfl) (SumsOk.cons (fn := f53) nS53_ok (by kernel_rfl) (by kernel_rfl) (by kernel_rfl) (SumsOk.cons (fn := f54) S25r_ok (by kernel_rfl) (by kernel_rfl) (by kernel_rfl) trivial))))
noncomputable def f23a : Code := fstC (fstC (backC 3 (bodyOf f23)))
noncomputable def hd81 : Code := fstC (roundOf 0 f81)
noncomputable def x81 : Code := blkC (fstC (sndC (roundOf 0 f81)))
noncomputable def ra81 : Code := fstC x81
noncomputable def rb81 : Code := fstC (sndC x81)
noncomputable def ops81 : Array Oper := match rb81 with | .region _ o _ => o | _ => #[]
noncomputable def cnd81 : Code := sndC (sndC x81)
noncomputable def rz81 : Code := sndC (sndC (roundOf 0 f81))
theorem split81 : roundOf 0 f81 = .seq hd81 (.seq (.block 1 (.seq ra81 (.seq (.region 4 ops81 false) cnd81))) rz81) := by kernel_rfl
theorem splitb81 : bodyOf f81 = .seq (fstC (bodyOf f81)) (.block 0 (.loop (roundOf 0 f81))) := by kernel_rfl
theorem rf23_eq : rf23 = .rangeFunc (.tmp 16) #[17] as23 bd23 := by kernel_rfl
theorem res81 : f81.results.toList = [] := by kernel_rfl
noncomputable def nHd (zs Bs xs hs us ks : List Int) (g off n ro rn gk i : Nat) (cp : Option Nat) (ow : Bool) (re : Int) (l : Nat) : Out := trim 11 11 [0,1,2,4] (run eG6 31 ⟨11, []⟩ 400 hd81 [(0, .func (.yield l) [] []), (1, .var 8 0), (2, .var 9 0), (4, .int .i64 (4 * (i : Nat)))] [some ⟨.ints .u8 zs, g, ow, 5⟩, some ⟨.agg [.nilSlice, .nilSlice, .nilSlice], 0, true, 47⟩, some ⟨.agg [.slice 1 3 1 ro rn none, .int .i64 re, .bool true], 0, true, 115⟩, some ⟨.ints .u8 Bs, 1, true, 5⟩, some ⟨.agg [.slice 1 5 1 0 xs.length none, .slice 1 6 1 0 hs.length none, .slice 1 10 gk 0 ks.length none], 0, true, 47⟩, some ⟨.ints .u8 xs, 1, true, 5⟩, some ⟨.ints .u8 hs, 1, true, 5⟩, some ⟨.ints .u8 us, 1, true, 5⟩, some ⟨.agg [.slice 1 7 1 0 us.length none], 0, true, 22⟩, some ⟨.ints .i64 [4], 0, true, 3⟩, some ⟨.ints .i64 ks, gk, true, 3⟩] [some true])
theorem nHd_ok {zs Bs xs hs us ks : List Int} {g off n ro rn gk i : Nat} {cp : Option Nat} {ow : Bool} {re : Int} {l : Nat} (h : allP [.p (decide (4 * (↑i : Int) < (↑us.length : Int)) = true)]) : Ok (nHd zs Bs xs hs us ks g off n ro rn gk i cp ow re l) := Ok.dem (fl := [true, true, true, false]) (by kernel_rfl) (by kernel_rfl) (by kernel_rfl) h
theorem nHd_ex {zs Bs xs hs us ks : List Int} {g off n ro rn gk i : Nat} {cp : Option Nat} {ow : Bool} {re : Int} {l : Nat} : (nHd zs Bs xs hs us ks g off n ro rn gk i cp ow re l).ex = .normal := by kernel_rfl
theorem nHd_fm {zs Bs xs hs us ks : List Int} {g off n ro rn gk i : Nat} {cp : Option Nat} {ow : Bool} {re : Int} {l : Nat} : (nHd zs Bs xs hs us ks g off n ro rn gk i cp ow re l).fm = [(0, .func (Fn.yield l) [] []), (1, .var 8 0), (2, .var 9 0), (4, .int .i64 (4 * (↑i : Int)))] := by kernel_rfl
theorem nHd_tab {zs Bs xs hs us ks : List Int} {g off n ro rn gk i : Nat} {cp : Option Nat} {ow : Bool} {re : Int} {l : Nat} : (nHd zs Bs xs hs us ks g off n ro rn gk i cp ow re l).tab = [some ⟨.ints .u8 zs, g, ow, 5⟩, some ⟨.agg [.nilSlice, .nilSlice, .nilSlice], 0, true, 47⟩, some ⟨.agg [.slice 1 3 1 ro rn none, .int .i64 re, .bool true], 0, true, 115⟩, some ⟨.ints .u8 Bs, 1, true, 5⟩, some ⟨.agg
 [.slice 1 5 1 0 xs.length none, .slice 1 6 1 0 hs.length none, .slice 1 10 gk 0 ks.length none], 0, true, 47⟩, some ⟨.ints .u8 xs, 1, true, 5⟩, some ⟨.ints .u8 hs, 1, true, 5⟩, some ⟨.ints .u8 us, 1, true, 5⟩, some ⟨.agg [.slice 1 7 1 0 us.length none], 0, true, 22⟩, some ⟨.ints .i64 [4], 0, true, 3⟩, some ⟨.ints .i64 ks, gk, true, 3⟩] := by kernel_rfl
noncomputable def nHe (zs Bs xs hs us ks : List Int) (g off n ro rn gk i : Nat) (cp : Option Nat) (ow : Bool) (re : Int) (l : Nat) : Out := trim 11 11 [] (run eG6 31 ⟨11, []⟩ 400 hd81 [(0, .func (.yield l) [] []), (1, .var 8 0), (2, .var 9 0), (4, .int .i64 (4 * (i : Nat)))] [some ⟨.ints .u8 zs, g, ow, 5⟩, some ⟨.agg [.nilSlice, .nilSlice, .nilSlice], 0, true, 47⟩, some ⟨.agg [.slice 1 3 1 ro rn none, .int .i64 re, .bool true], 0, true, 115⟩, some ⟨.ints .u8 Bs, 1, true, 5⟩, some ⟨.agg [.slice 1 5 1 0 xs.length none, .slice 1 6 1 0 hs.length none, .slice 1 10 gk 0 ks.length none], 0, true, 47⟩, some ⟨.ints .u8 xs, 1, true, 5⟩, some ⟨.ints .u8 hs, 1, true, 5⟩, some ⟨.ints .u8 us, 1, true, 5⟩, some ⟨.agg [.slice 1 7 1 0 us.length none], 0, true, 22⟩, some ⟨.ints .i64 [4], 0, true, 3⟩, some ⟨.ints .i64 ks, gk, true, 3⟩] [some false])
theorem nHe_ok {zs Bs xs hs us ks : List Int} {g off n ro rn gk i : Nat} {cp : Option Nat} {ow : Bool} {re : Int} {l : Nat} (h : allP [.p (decide (4 * (↑i : Int) < (↑us.length : Int)) = false)]) : Ok (nHe zs Bs xs hs us ks g off n ro rn gk i cp ow re l) := Ok.dem (fl := [true, true, true, false]) (by kernel_rfl) (by kernel_rfl) (by kernel_rfl) h
theorem nHe_ex {zs Bs xs hs us ks : List Int} {g off n ro rn gk i : Nat} {cp : Option Nat} {ow : Bool} {re : Int} {l : Nat} : (nHe zs Bs xs hs us ks g off n ro rn gk i cp ow re l).ex = .exit 0 := by kernel_rfl
theorem nHe_fm {zs Bs xs hs us ks : List Int} {g off n ro rn gk i : Nat} {cp : Option Nat} {ow : Bool} {re : Int} {l : Nat} : (nHe zs Bs xs hs us ks g off n ro rn gk i cp ow re l).fm = [] := by kernel_rfl
theorem nHe_tab {zs Bs xs hs us ks : List Int} {g off n ro rn gk i : Nat} {cp : Option Nat} {ow : Bool} {re : Int} {l : Nat} : (nHe zs Bs xs hs us ks g off n ro rn gk i cp ow re l).tab = [some ⟨.ints .u8 zs, g, ow, 5⟩, some ⟨.agg [.nilSlice, .nilSlice, .nilSlice], 0, true, 47⟩, some ⟨.agg [.slice 1 3 1 ro rn none, .int .i64 re, .bool true], 0, true, 115⟩, some ⟨.ints .u8 Bs, 1, true, 5⟩, some ⟨.agg
 [.slice 1 5 1 0 xs.length none, .slice 1 6 1 0 hs.length none, .slice 1 10 gk 0 ks.length none], 0, true, 47⟩, some ⟨.ints .u8 xs, 1, true, 5⟩, some ⟨.ints .u8 hs, 1, true, 5⟩, some ⟨.ints .u8 us, 1, true, 5⟩, some ⟨.agg [.slice 1 7 1 0 us.length none], 0, true, 22⟩, some ⟨.ints .i64 [4], 0, true, 3⟩, some ⟨.ints .i64 ks, gk, true, 3⟩] := by kernel_rfl
noncomputable def nRa (zs Bs xs hs us ks : List Int) (g off n ro rn gk i : Nat) (cp : Option Nat) (ow : Bool) (re : Int) (l : Nat) : Out := trim 11 11 [0,1,2,4,5] (run eG6 31 ⟨11, []⟩ 400 ra81 [(0, .func (.yield l) [] []), (1, .var 8 0), (2, .var 9 0), (4, .int .i64 (4 * (i : Nat)))] [some ⟨.ints .u8 zs, g, ow, 5⟩, some ⟨.agg [.nilSlice, .nilSlice, .nilSlice], 0, true, 47⟩, some ⟨.agg [.slice 1 3 1 ro rn none, .int .i64 re, .bool true], 0, true, 115⟩, some ⟨.ints .u8 Bs, 1, true, 5⟩, some ⟨.agg [.slice 1 5 1 0 xs.length none, .slice 1 6 1 0 hs.length none, .slice 1 10 gk 0 ks.length none], 0, true, 47⟩, some ⟨.ints .u8 xs, 1, true, 5⟩, some ⟨.ints .u8 hs, 1, true, 5⟩, some ⟨.ints .u8 us, 1, true, 5⟩, some ⟨.agg [.slice 1 7 1 0 us.length none], 0, true, 22⟩, some ⟨.ints .i64 [4], 0, true, 3⟩, some ⟨.ints .i64 ks, gk, true, 3⟩] [])
theorem nRa_ok {zs Bs xs hs us ks : List Int} {g off n ro rn gk i : Nat} {cp : Option Nat} {ow : Bool} {re : Int} {l : Nat} (h : allP [.leI 0 (4 * (↑i : Int)), .leN (4 * i) us.length]) : Ok (nRa zs Bs xs hs us ks g off n ro rn gk i cp ow re l) := Ok.dem (fl := [false, true, true, true, true, false, true, false, true]) (by kernel_rfl) (by kernel_rfl) (by kernel_rfl) h
theorem nRa_ex {zs Bs xs hs us ks : List Int} {g off n ro rn gk i : Nat} {cp : Option Nat} {ow : Bool} {re : Int} {l : Nat} : (nRa zs Bs xs hs us ks g off n ro rn gk i cp ow re l).ex = .normal := by kernel_rfl
theorem nRa_fm {zs Bs xs hs us ks : List Int} {g off n ro rn gk i : Nat} {cp : Option Nat} {ow : Bool} {re : Int} {l : Nat} : (nRa zs Bs xs hs us ks g off n ro rn gk i cp ow re l).fm = [(0, .func (Fn.yield l) [] []), (1, .var 8 0), (2, .var 9 0), (4, .int .i64 (4 * (↑i : Int))), (5, .int .i64 (if (↑(subO us.length (4 * i)) : Int) < 4 then (↑(subO us.length (4 * i)) : Int) else 4))] := by kernel_rfl
theorem nRa_tab {zs Bs xs hs us ks : List Int} {g off n ro rn gk i : Nat} {cp : Option Nat} {ow : Bool} {re : Int} {l : Nat} : (nRa zs Bs xs hs us ks g off n ro rn gk i cp ow re l).tab = [some ⟨.ints .u8 zs, g, ow, 5⟩, some ⟨.agg [.nilSlice, .nilSlice, .nilSlice], 0, true, 47⟩, some ⟨.agg [.slice 1 3 1 ro rn none, .int .i64 re, .bool true], 0, true, 115⟩, some ⟨.ints .u8 Bs, 1, true, 5⟩, some ⟨.agg
 [.slice 1 5 1 0 xs.length none, .slice 1 6 1 0 hs.length none, .slice 1 10 gk 0 ks.length none], 0, true, 47⟩, some ⟨.ints .u8 xs, 1, true, 5⟩, some ⟨.ints .u8 hs, 1, true, 5⟩, some ⟨.ints .u8 us, 1, true, 5⟩, some ⟨.agg [.slice 1 7 1 0 us.length none], 0, true, 22⟩, some ⟨.ints .i64 [4], 0, true, 3⟩, some ⟨.ints .i64 ks, gk, true, 3⟩] := by kernel_rfl
noncomputable def nYp (zs Bs xs hs us ks : List Int) (g off n ro rn gk i : Nat) (cp : Option Nat) (ow : Bool) (re : Int) (e l : Nat) : Out := runOps eG6 ops81.toList 31 (ops81.toList.take 10) [(0, .func (.yield l) [] []), (1, .var 8 0), (2, .var 9 0), (4, .int .i64 (4 * (i : Nat))), (5, .int .i64 (e : Nat))] (([some ⟨.ints .u8 zs, g, ow, 5⟩, some ⟨.agg [.nilSlice, .nilSlice, .nilSlice], 0, true, 47⟩, some ⟨.agg [.slice 1 3 1 ro rn none, .int .i64 re, .bool true], 0, true, 115⟩, some ⟨.ints .u8 Bs, 1, true, 5⟩, some ⟨.agg [.slice 1 5 1 0 xs.length none, .slice 1 6 1 0 hs.length none, .slice 1 10 gk 0 ks.length none], 0, true, 47⟩, some ⟨.ints .u8 xs, 1, true, 5⟩, some ⟨.ints .u8 hs, 1, true, 5⟩, some ⟨.ints .u8 us, 1, true, 5⟩, some ⟨.agg [.slice 1 7 1 0 us.length none], 0, true, 22⟩, some ⟨.ints .i64 [4], 0, true, 3⟩, some ⟨.ints .i64 ks, gk, true, 3⟩] : Tab) ++ holes (cntA eG6 (ops81.toList.take 10))) ([some ⟨.ints .u8 zs, g, ow, 5⟩, some ⟨.agg [.nilSlice, .nilSlice, .nilSlice], 0, true, 47⟩, some ⟨.agg [.slice 1 3 1 ro rn none, .int .i64 re, .bool true], 0, true, 115⟩, some ⟨.ints .u8 Bs, 1, true, 5⟩, some ⟨.agg [.slice 1 5 1 0 xs.length none, .slice 1 6 1 0 hs.length none, .slice 1 10 gk 0 ks.length none], 0, true, 47⟩, some ⟨.ints .u8 xs, 1, true, 5⟩, some ⟨.ints .u8 hs, 1, true, 5⟩, some ⟨.ints .u8 us, 1, true, 5⟩, some ⟨.agg [.slice 1 7 1 0 us.length none], 0, true, 22⟩, some ⟨.ints .i64 [4], 0, true, 3⟩, some ⟨.ints .i64 ks, gk, true, 3⟩] : Tab).length []
theorem nYp_ok {zs Bs xs hs us ks : List Int} {g off n ro rn gk i : Nat} {cp : Option Nat} {ow : Bool} {re : Int} {e l : Nat} (h : allP [.rng (-9223372036854775808) (4 * (↑i : Int) + (↑e : Int)) 9223372036854775807, .rng (-9223372036854775808) (4 * (↑i : Int) + (↑e : Int)) 9223372036854775807, .leI 0 (4 * (↑i : Int)), .leI 0 (4 * (↑i : Int) + (↑e : Int)), .leI 0 (4 * (↑i : Int) + (↑e : Int)), .leN
 (4 * i) (4 * i + e), .leN (4 * i + e) (4 * i + e), .orN (4 * i + e) us.length (0 + (4 * i + e)) us.length]) : Ok (nYp zs Bs xs hs us ks g off n ro rn gk i cp ow re e l) := Ok.dem (fl := [true, true, false, false, false, false, false, true, false, false, false]) (by kernel_rfl) (by kernel_rfl) (by kernel_rfl) h
theorem nYp_fm {zs Bs xs hs us ks : List Int} {g off n ro rn gk i : Nat} {cp : Option Nat} {ow : Bool} {re : Int} {e l : Nat} : (nYp zs Bs xs hs us ks g off n ro rn gk i cp ow re e l).fm = [(28, .slice 1 7 1 (4 * i) (subO (4 * i + e) (4 * i)) (some (subO (4 * i + e) (4 * i)))), (27, .int .i64 (4 * (↑i : Int) + (↑e : Int))), (26, .int .i64 (↑e : Int)), (25, .int .i64 (4 * (↑i : Int))), (24, .int
 .i64 (4 * (↑i : Int) + (↑e : Int))), (23, .int .i64 (↑e : Int)), (22, .int .i64 (4 * (↑i : Int))), (21, .int .i64 (4 * (↑i : Int))), (20, .slice 1 7 1 0 us.length none), (19, .func (Fn.yield l) [] []), (0, .func (Fn.yield l) [] []), (1, .var 8 0), (2, .var 9 0), (4, .int .i64 (4 * (↑i : Int))), (5, .int .i64 (↑e : Int))] := by kernel_rfl
theorem nYp_tab {zs Bs xs hs us ks : List Int} {g off n ro rn gk i : Nat} {cp : Option Nat} {ow : Bool} {re : Int} {e l : Nat} : (nYp zs Bs xs hs us ks g off n ro rn gk i cp ow re e l).tab = [some ⟨.ints .u8 zs, g, ow, 5⟩, some ⟨.agg [.nilSlice, .nilSlice, .nilSlice], 0, true, 47⟩, some ⟨.agg [.slice 1 3 1 ro rn none, .int .i64 re, .bool true], 0, true, 115⟩, some ⟨.ints .u8 Bs, 1, true, 5⟩, some
 ⟨.agg [.slice 1 5 1 0 xs.length none, .slice 1 6 1 0 hs.length none, .slice 1 10 gk 0 ks.length none], 0, true, 47⟩, some ⟨.ints .u8 xs, 1, true, 5⟩, some ⟨.ints .u8 hs, 1, true, 5⟩, some ⟨.ints .u8 us, 1, true, 5⟩, some ⟨.agg [.slice 1 7 1 0 us.length none], 0, true, 22⟩, some ⟨.ints .i64 [4], 0, true, 3⟩, some ⟨.ints .i64 ks, gk, true, 3⟩] := by kernel_rfl
noncomputable def nAs (zs Bs xs hs us ks : List Int) (g off n ro rn gk i : Nat) (cp : Option Nat) (ow : Bool) (re : Int) (e : Nat) : Out := trim 11 11 [0,2,3,4,5,6,16] (run eG6 32 ⟨11, []⟩ 400 as23 ((17, .slice 1 7 1 (4 * i) e (some e)) :: [(0, .slice 1 0 g off n cp), (2, .var 1 0), (3, .int .i64 0), (4, .var 2 0), (5, .var 4 0), (16, .func (.func 81) [] [.var 8 0, .var 9 0])]) [some ⟨.ints .u8 zs, g, ow, 5⟩, some ⟨.agg [.nilSlice, .nilSlice, .nilSlice], 0, true, 47⟩, some ⟨.agg [.slice 1 3 1 ro rn none, .int .i64 re, .bool true], 0, true, 115⟩, some ⟨.ints .u8 Bs, 1, true, 5⟩, some ⟨.agg [.slice 1 5 1 0 xs.length none, .slice 1 6 1 0 hs.length none, .slice 1 10 gk 0 ks.length none], 0, true, 47⟩, some ⟨.ints .u8 xs, 1, true, 5⟩, some ⟨.ints .u8 hs, 1, true, 5⟩, some ⟨.ints .u8 us, 1, true, 5⟩, some ⟨.agg [.slice 1 7 1 0 us.length none], 0, true, 22⟩, some ⟨.ints .i64 [4], 0, true, 3⟩, some ⟨.ints .i64 ks, gk, true, 3⟩] [])
theorem nAs_ok {zs Bs xs hs us ks : List Int} {g off n ro rn gk i : Nat} {cp : Option Nat} {ow : Bool} {re : Int} {e : Nat} (h : allP []) : Ok (nAs zs Bs xs hs us ks g off n ro rn gk i cp ow re e) := Ok.dem (fl := []) (by kernel_rfl) (by kernel_rfl) (by kernel_rfl) h
theorem nAs_ex {zs Bs xs hs us ks : List Int} {g off n ro rn gk i : Nat} {cp : Option Nat} {ow : Bool} {re : Int} {e : Nat} : (nAs zs Bs xs hs us ks g off n ro rn gk i cp ow re e).ex = .normal := by kernel_rfl
theorem nAs_fm {zs Bs xs hs us ks : List Int} {g off n ro rn gk i : Nat} {cp : Option Nat} {ow : Bool} {re : Int} {e : Nat} : (nAs zs Bs xs hs us ks g off n ro rn gk i cp ow re e).fm = [(0, .slice 1 0 g off n cp), (2, .var 1 0), (3, .int .i64 0), (4, .var 2 0), (5, .var 4 0), (6, .slice 1 7 1 (4 * i) e (some e)), (16, .func (Fn.func 81) [] [.var 8 0, .var 9 0])] := by kernel_rfl
theorem nAs_tab {zs Bs xs hs us ks : List Int} {g off n ro rn gk i : Nat} {cp : Option Nat} {ow : Bool} {re : Int} {e : Nat} : (nAs zs Bs xs hs us ks g off n ro rn gk i cp ow re e).tab = [some ⟨.ints .u8 zs, g, ow, 5⟩, some ⟨.agg [.nilSlice, .nilSlice, .nilSlice], 0, true, 47⟩, some ⟨.agg [.slice 1 3 1 ro rn none, .int .i64 re, .bool true], 0, true, 115⟩, some ⟨.ints .u8 Bs, 1, true, 5⟩, some ⟨.agg
 [.slice 1 5 1 0 xs.length none, .slice 1 6 1 0 hs.length none, .slice 1 10 gk 0 ks.length none], 0, true, 47⟩, some ⟨.ints .u8 xs, 1, true, 5⟩, some ⟨.ints .u8 hs, 1, true, 5⟩, some ⟨.ints .u8 us, 1, true, 5⟩, some ⟨.agg [.slice 1 7 1 0 us.length none], 0, true, 22⟩, some ⟨.ints .i64 [4], 0, true, 3⟩, some ⟨.ints .i64 ks, gk, true, 3⟩] := by kernel_rfl
noncomputable def nBd (zs Bs xs hs us ks : List Int) (g off n ro rn gk i : Nat) (cp : Option Nat) (ow : Bool) (re : Int) (e : Nat) : Out := trimG 11 [0, 1, 2, 3, 4, 5, 6, 7, 8, 9, 10] [0,2,3,4,5,16] (run eG6 32 ⟨11, []⟩ 400 bd23 [(0, .slice 1 0 g off n cp), (2, .var 1 0), (3, .int .i64 0), (4, .var 2 0), (5, .var 4 0), (6, .slice 1 7 1 (4 * i) e (some e)), (16, .func (.func 81) [] [.var 8 0, .var 9 0])] [some ⟨.ints .u8 zs, g, ow, 5⟩, some ⟨.agg [.nilSlice, .nilSlice, .nilSlice], 0, true, 47⟩, some ⟨.agg [.slice 1 3 1 ro rn none, .int .i64 re, .bool true], 0, true, 115⟩, some ⟨.ints .u8 Bs, 1, true, 5⟩, some ⟨.agg [.slice 1 5 1 0 xs.length none, .slice 1 6 1 0 hs.length none, .slice 1 10 gk 0 ks.length none], 0, true, 47⟩, some ⟨.ints .u8 xs, 1, true, 5⟩, some ⟨.ints .u8 hs, 1, true, 5⟩, some ⟨.ints .u8 us, 1, true, 5⟩, some ⟨.agg [.slice 1 7 1 0 us.length none], 0, true, 22⟩, some ⟨.ints .i64 [4], 0, true, 3⟩, some ⟨.ints .i64 ks, gk, true, 3⟩] [])
theorem nBd_ok {zs Bs xs hs us ks : List Int} {g off n ro rn gk i : Nat} {cp : Option Nat} {ow : Bool} {re : Int} {e : Nat} (h : allP [.leN (4 * i + e) us.length, .leN e 140737488355000, .eqN e ((subLaw us (4 * i) e).length - 0), .leN 0 (subLaw us (4 * i) e).length, .p (ByLaw (subLaw us (4 * i) e)), .eqN gk gk, .leN (0 + ks.length) ks.length, .leN (addO ks.length 1 * 8) 140737488355328]) : Ok (nBd
 zs Bs xs hs us ks g off n ro rn gk i cp ow re e) := Ok.dem (fl := bitsF 44 8642414795734) (by kernel_rfl) (by kernel_rfl) (by kernel_rfl) h
theorem nBd_ex {zs Bs xs hs us ks : List Int} {g off n ro rn gk i : Nat} {cp : Option Nat} {ow : Bool} {re : Int} {e : Nat} : (nBd zs Bs xs hs us ks g off n ro rn gk i cp ow re e).ex = .normal := by kernel_rfl
theorem nBd_fm {zs Bs xs hs us ks : List Int} {g off n ro rn gk i : Nat} {cp : Option Nat} {ow : Bool} {re : Int} {e : Nat} : (nBd zs Bs xs hs us ks g off n ro rn gk i cp ow re e).fm = [(0, .slice 1 0 g off n cp), (2, .var 1 0), (3, .int .i64 0), (4, .var 2 0), (5, .var 4 0), (16, .func (Fn.func 81) [] [.var 8 0, .var 9 0])] := by kernel_rfl
theorem nBd_tab {zs Bs xs hs us ks : List Int} {g off n ro rn gk i : Nat} {cp : Option Nat} {ow : Bool} {re : Int} {e : Nat} : (nBd zs Bs xs hs us ks g off n ro rn gk i cp ow re e).tab = [some ⟨.ints .u8 zs, g, ow, 5⟩, some ⟨.agg [.nilSlice, .nilSlice, .nilSlice], 0, true, 47⟩, some ⟨.agg [.slice 1 3 1 ro rn none, .int .i64 re, .bool true], 0, true, 115⟩, some ⟨.ints .u8 Bs, 1, true, 5⟩, some ⟨.agg
 [.slice 1 5 1 0 xs.length none, .slice 1 6 1 0 hs.length none, .slice 1 10 (gk + 1) 0 (addO ks.length 1) none], 0, true, 47⟩, some ⟨.ints .u8 xs, 1, true, 5⟩, some ⟨.ints .u8 hs, 1, true, 5⟩, some ⟨.ints .u8 us, 1, true, 5⟩, some ⟨.agg [.slice 1 7 1 0 us.length none], 0, true, 22⟩, some ⟨.ints .i64 [4], 0, true, 3⟩, some ⟨.ints .i64 (List.take ks.length ks ++ List.take 1 ([0].set 0 (rnVLaw (subLaw
 us (4 * i) e) 0 0 4))), gk + 1, true, 3⟩] := by kernel_rfl
noncomputable def nYn (zs Bs xs hs us ks : List Int) (g off n ro rn gk i : Nat) (cp : Option Nat) (ow : Bool) (re : Int) (e l : Nat) : Out := runOps eG6 ops81.toList 31 (ops81.toList.drop 11) ((29, .bool true) :: (nYp zs Bs xs hs us ks g off n ro rn gk i cp ow re e l).fm) (([some ⟨.ints .u8 zs, g, ow, 5⟩, some ⟨.agg [.nilSlice, .nilSlice, .nilSlice], 0, true, 47⟩, some ⟨.agg [.slice 1 3 1 ro rn none, .int .i64 re, .bool true], 0, true, 115⟩, some ⟨.ints .u8 Bs, 1, true, 5⟩, some ⟨.agg [.slice 1 5 1 0 xs.length none, .slice 1 6 1 0 hs.length none, .slice 1 10 gk 0 ks.length none], 0, true, 47⟩, some ⟨.ints .u8 xs, 1, true, 5⟩, some ⟨.ints .u8 hs, 1, true, 5⟩, some ⟨.ints .u8 us, 1, true, 5⟩, some ⟨.agg [.slice 1 7 1 0 us.length none], 0, true, 22⟩, some ⟨.ints .i64 [4], 0, true, 3⟩, some ⟨.ints .i64 ks, gk, true, 3⟩] : Tab) ++ holes (cntA eG6 (ops81.toList.drop 11))) ([some ⟨.ints .u8 zs, g, ow, 5⟩, some ⟨.agg [.nilSlice, .nilSlice, .nilSlice], 0, true, 47⟩, some ⟨.agg [.slice 1 3 1 ro rn none, .int .i64 re, .bool true], 0, true, 115⟩, some ⟨.ints .u8 Bs, 1, true, 5⟩, some ⟨.agg [.slice 1 5 1 0 xs.length none, .slice 1 6 1 0 hs.length none, .slice 1 10 gk 0 ks.length none], 0, true, 47⟩, some ⟨.ints .u8 xs, 1, true, 5⟩, some ⟨.ints .u8 hs, 1, true, 5⟩, some ⟨.ints .u8 us, 1, true, 5⟩, some ⟨.agg [.slice 1 7 1 0 us.length none], 0, true, 22⟩, some ⟨.ints .i64 [4], 0, true, 3⟩, some ⟨.ints .i64 ks, gk, true, 3⟩] : Tab).length []
theorem nYn_ok {zs Bs xs hs us ks : List Int} {g off n ro rn gk i : Nat} {cp : Option Nat} {ow : Bool} {re : Int} {e l : Nat} (h : allP []) : Ok (nYn zs Bs xs hs us ks g off n ro rn gk i cp ow re e l) := Ok.dem (fl := []) (by kernel_rfl) (by kernel_rfl) (by kernel_rfl) h
theorem nYn_fm {zs Bs xs hs us ks : List Int} {g off n ro rn gk i : Nat} {cp : Option Nat} {ow : Bool} {re : Int} {e l : Nat} : (nYn zs Bs xs hs us ks g off n ro rn gk i cp ow re e l).fm = [(30, .bool false), (29, .bool true), (28, .slice 1 7 1 (4 * i) (subO (4 * i + e) (4 * i)) (some (subO (4 * i + e) (4 * i)))), (27, .int .i64 (4 * (↑i : Int) + (↑e : Int))), (26, .int .i64 (↑e : Int)), (25, .int
 .i64 (4 * (↑i : Int))), (24, .int .i64 (4 * (↑i : Int) + (↑e : Int))), (23, .int .i64 (↑e : Int)), (22, .int .i64 (4 * (↑i : Int))), (21, .int .i64 (4 * (↑i : Int))), (20, .slice 1 7 1 0 us.length none), (19, .func (Fn.yield l) [] []), (0, .func (Fn.yield l) [] []), (1, .var 8 0), (2, .var 9 0), (4, .int .i64 (4 * (↑i : Int))), (5, .int .i64 (↑e : Int))] := by kernel_rfl
theorem nYn_tab {zs Bs xs hs us ks : List Int} {g off n ro rn gk i : Nat} {cp : Option Nat} {ow : Bool} {re : Int} {e l : Nat} : (nYn zs Bs xs hs us ks g off n ro rn gk i cp ow re e l).tab = [some ⟨.ints .u8 zs, g, ow, 5⟩, some ⟨.agg [.nilSlice, .nilSlice, .nilSlice], 0, true, 47⟩, some ⟨.agg [.slice 1 3 1 ro rn none, .int .i64 re, .bool true], 0, true, 115⟩, some ⟨.ints .u8 Bs, 1, true, 5⟩, some
 ⟨.agg [.slice 1 5 1 0 xs.length none, .slice 1 6 1 0 hs.length none, .slice 1 10 gk 0 ks.length none], 0, true, 47⟩, some ⟨.ints .u8 xs, 1, true, 5⟩, some ⟨.ints .u8 hs, 1, true, 5⟩, some ⟨.ints .u8 us, 1, true, 5⟩, some ⟨.agg [.slice 1 7 1 0 us.length none], 0, true, 22⟩, some ⟨.ints .i64 [4], 0, true, 3⟩, some ⟨.ints .i64 ks, gk, true, 3⟩] := by kernel_rfl
noncomputable def nCn (zs Bs xs hs us ks : List Int) (g off n ro rn gk i : Nat) (cp : Option Nat) (ow : Bool) (re : Int) (e l : Nat) : Out := trim 11 11 [0,1,2,4,5] (run eG6 31 ⟨11, []⟩ 400 cnd81 (nYn zs Bs xs hs us ks g off n ro rn gk i cp ow re e l).fm [some ⟨.ints .u8 zs, g, ow, 5⟩, some ⟨.agg [.nilSlice, .nilSlice, .nilSlice], 0, true, 47⟩, some ⟨.agg [.slice 1 3 1 ro rn none, .int .i64 re, .bool true], 0, true, 115⟩, some ⟨.ints .u8 Bs, 1, true, 5⟩, some ⟨.agg [.slice 1 5 1 0 xs.length none, .slice 1 6 1 0 hs.length none, .slice 1 10 gk 0 ks.length none], 0, true, 47⟩, some ⟨.ints .u8 xs, 1, true, 5⟩, some ⟨.ints .u8 hs, 1, true, 5⟩, some ⟨.ints .u8 us, 1, true, 5⟩, some ⟨.agg [.slice 1 7 1 0 us.length none], 0, true, 22⟩, some ⟨.ints .i64 [4], 0, true, 3⟩, some ⟨.ints .i64 ks, gk, true, 3⟩] [])
theorem nCn_ok {zs Bs xs hs us ks : List Int} {g off n ro rn gk i : Nat} {cp : Option Nat} {ow : Bool} {re : Int} {e l : Nat} (h : allP []) : Ok (nCn zs Bs xs hs us ks g off n ro rn gk i cp ow re e l) := Ok.dem (fl := []) (by kernel_rfl) (by kernel_rfl) (by kernel_rfl) h
theorem nCn_ex {zs Bs xs hs us ks : List Int} {g off n ro rn gk i : Nat} {cp : Option Nat} {ow : Bool} {re : Int} {e l : Nat} : (nCn zs Bs xs hs us ks g off n ro rn gk i cp ow re e l).ex = .normal := by kernel_rfl
theorem nCn_fm {zs Bs xs hs us ks : List Int} {g off n ro rn gk i : Nat} {cp : Option Nat} {ow : Bool} {re : Int} {e l : Nat} : (nCn zs Bs xs hs us ks g off n ro rn gk i cp ow re e l).fm = [(0, .func (Fn.yield l) [] []), (1, .var 8 0), (2, .var 9 0), (4, .int .i64 (4 * (↑i : Int))), (5, .int .i64 (↑e : Int))] := by kernel_rfl
theorem nCn_tab {zs Bs xs hs us ks : List Int} {g off n ro rn gk i : Nat} {cp : Option Nat} {ow : Bool} {re : Int} {e l : Nat} : (nCn zs Bs xs hs us ks g off n ro rn gk i cp ow re e l).tab = [some ⟨.ints .u8 zs, g, ow, 5⟩, some ⟨.agg [.nilSlice, .nilSlice, .nilSlice], 0, true, 47⟩, some ⟨.agg [.slice 1 3 1 ro rn none, .int .i64 re, .bool true], 0, true, 115⟩, some ⟨.ints .u8 Bs, 1, true, 5⟩, some
 ⟨.agg [.slice 1 5 1 0 xs.length none, .slice 1 6 1 0 hs.length none, .slice 1 10 gk 0 ks.length none], 0, true, 47⟩, some ⟨.ints .u8 xs, 1, true, 5⟩, some ⟨.ints .u8 hs, 1, true, 5⟩, some ⟨.ints .u8 us, 1, true, 5⟩, some ⟨.agg [.slice 1 7 1 0 us.length none], 0, true, 22⟩, some ⟨.ints .i64 [4], 0, true, 3⟩, some ⟨.ints .i64 ks, gk, true, 3⟩] := by kernel_rfl
noncomputable def nRz (zs Bs xs hs us ks : List Int) (g off n ro rn gk i : Nat) (cp : Option Nat) (ow : Bool) (re : Int) (e l : Nat) : Out := trim 11 11 [0,1,2,4] (run eG6 31 ⟨11, []⟩ 400 rz81 [(0, .func (.yield l) [] []), (1, .var 8 0), (2, .var 9 0), (4, .int .i64 (4 * (i : Nat))), (5, .int .i64 (e : Nat))] [some ⟨.ints .u8 zs, g, ow, 5⟩, some ⟨.agg [.nilSlice, .nilSlice, .nilSlice], 0, true, 47⟩, some ⟨.agg [.slice 1 3 1 ro rn none, .int .i64 re, .bool true], 0, true, 115⟩, some ⟨.ints .u8 Bs, 1, true, 5⟩, some ⟨.agg [.slice 1 5 1 0 xs.length none, .slice 1 6 1 0 hs.length none, .slice 1 10 gk 0 ks.length none], 0, true, 47⟩, some ⟨.ints .u8 xs, 1, true, 5⟩, some ⟨.ints .u8 hs, 1, true, 5⟩, some ⟨.ints .u8 us, 1, true, 5⟩, some ⟨.agg [.slice 1 7 1 0 us.length none], 0, true, 22⟩, some ⟨.ints .i64 [4], 0, true, 3⟩, some ⟨.ints .i64 ks, gk, true, 3⟩] [])
theorem nRz_ok {zs Bs xs hs us ks : List Int} {g off n ro rn gk i : Nat} {cp : Option Nat} {ow : Bool} {re : Int} {e l : Nat} (h : allP [.rng (-9223372036854775808) (4 * (↑i : Int) + 4) 9223372036854775807]) : Ok (nRz zs Bs xs hs us ks g off n ro rn gk i cp ow re e l) := Ok.dem (fl := [true, true, false]) (by kernel_rfl) (by kernel_rfl) (by kernel_rfl) h
theorem nRz_ex {zs Bs xs hs us ks : List Int} {g off n ro rn gk i : Nat} {cp : Option Nat} {ow : Bool} {re : Int} {e l : Nat} : (nRz zs Bs xs hs us ks g off n ro rn gk i cp ow re e l).ex = .normal := by kernel_rfl
theorem nRz_fm {zs Bs xs hs us ks : List Int} {g off n ro rn gk i : Nat} {cp : Option Nat} {ow : Bool} {re : Int} {e l : Nat} : (nRz zs Bs xs hs us ks g off n ro rn gk i cp ow re e l).fm = [(0, .func (Fn.yield l) [] []), (1, .var 8 0), (2, .var 9 0), (4, .int .i64 (4 * (↑i : Int) + 4))] := by kernel_rfl
theorem nRz_tab {zs Bs xs hs us ks : List Int} {g off n ro rn gk i : Nat} {cp : Option Nat} {ow : Bool} {re : Int} {e l : Nat} : (nRz zs Bs xs hs us ks g off n ro rn gk i cp ow re e l).tab = [some ⟨.ints .u8 zs, g, ow, 5⟩, some ⟨.agg [.nilSlice, .nilSlice, .nilSlice], 0, true, 47⟩, some ⟨.agg [.slice 1 3 1 ro rn none, .int .i64 re, .bool true], 0, true, 115⟩, some ⟨.ints .u8 Bs, 1, true, 5⟩, some
 ⟨.agg [.slice 1 5 1 0 xs.length none, .slice 1 6 1 0 hs.length none, .slice 1 10 gk 0 ks.length none], 0, true, 47⟩, some ⟨.ints .u8 xs, 1, true, 5⟩, some ⟨.ints .u8 hs, 1, true, 5⟩, some ⟨.ints .u8 us, 1, true, 5⟩, some ⟨.agg [.slice 1 7 1 0 us.length none], 0, true, 22⟩, some ⟨.ints .i64 [4], 0, true, 3⟩, some ⟨.ints .i64 ks, gk, true, 3⟩] := by kernel_rfl
noncomputable def nRs (zs Bs xs hs us ks : List Int) (g off n ro rn gk i : Nat) (cp : Option Nat) (ow : Bool) (re : Int) (l : Nat) : Out := trim 11 11 [0,1,2,4] (run eG6 31 ⟨11, []⟩ 400 (fstC (bodyOf f81)) (argF [.func (.yield l) [] [], .var 8 0, .var 9 0] 0) [some ⟨.ints .u8 zs, g, ow, 5⟩, some ⟨.agg [.nilSlice, .nilSlice, .nilSlice], 0, true, 47⟩, some ⟨.agg [.slice 1 3 1 ro rn none, .int .i64 re, .bool true], 0, true, 115⟩, some ⟨.ints .u8 Bs, 1, true, 5⟩, some ⟨.agg [.slice 1 5 1 0 xs.length none, .slice 1 6 1 0 hs.length none, .slice 1 10 gk 0 ks.length none], 0, true, 47⟩, some ⟨.ints .u8 xs, 1, true, 5⟩, some ⟨.ints .u8 hs, 1, true, 5⟩, some ⟨.ints .u8 us, 1, true, 5⟩, some ⟨.agg [.slice 1 7 1 0 us.length none], 0, true, 22⟩, some ⟨.ints .i64 [4], 0, true, 3⟩, some ⟨.ints .i64 ks, gk, true, 3⟩] [])
theorem nRs_ok {zs Bs xs hs us ks : List Int} {g off n ro rn gk i : Nat} {cp : Option Nat} {ow : Bool} {re : Int} {l : Nat} (h : allP []) : Ok (nRs zs Bs xs hs us ks g off n ro rn gk i cp ow re l) := Ok.dem (fl := []) (by kernel_rfl) (by kernel_rfl) (by kernel_rfl) h
theorem nRs_ex {zs Bs xs hs us ks : List Int} {g off n ro rn gk i : Nat} {cp : Option Nat} {ow : Bool} {re : Int} {l : Nat} : (nRs zs Bs xs hs us ks g off n ro rn gk i cp ow re l).ex = .normal := by kernel_rfl
theorem nRs_fm {zs Bs xs hs us ks : List Int} {g off n ro rn gk i : Nat} {cp : Option Nat} {ow : Bool} {re : Int} {l : Nat} : (nRs zs Bs xs hs us ks g off n ro rn gk i cp ow re l).fm = [(0, .func (Fn.yield l) [] []), (1, .var 8 0), (2, .var 9 0), (4, .int .i64 0)] := by kernel_rfl
theorem nRs_tab {zs Bs xs hs us ks : List Int} {g off n ro rn gk i : Nat} {cp : Option Nat} {ow : Bool} {re : Int} {l : Nat} : (nRs zs Bs xs hs us ks g off n ro rn gk i cp ow re l).tab = [some ⟨.ints .u8 zs, g, ow, 5⟩, some ⟨.agg [.nilSlice, .nilSlice, .nilSlice], 0, true, 47⟩, some ⟨.agg [.slice 1 3 1 ro rn none, .int .i64 re, .bool true], 0, true, 115⟩, some ⟨.ints .u8 Bs, 1, true, 5⟩, some ⟨.agg
 [.slice 1 5 1 0 xs.length none, .slice 1 6 1 0 hs.length none, .slice 1 10 gk 0 ks.length none], 0, true, 47⟩, some ⟨.ints .u8 xs, 1, true, 5⟩, some ⟨.ints .u8 hs, 1, true, 5⟩, some ⟨.ints .u8 us, 1, true, 5⟩, some ⟨.agg [.slice 1 7 1 0 us.length none], 0, true, 22⟩, some ⟨.ints .i64 [4], 0, true, 3⟩, some ⟨.ints .i64 ks, gk, true, 3⟩] := by kernel_rfl
end Go.Abs

set_option linter.unusedVariables false
set_option linter.unusedSimpArgs false
set_option maxRecDepth 100000
set_option maxHeartbeats 4000000
namespace Go.Abs
open Go.Proofs Go.Proofs.Try
/-! ### chunk by chunk -/
def eN (us : List Int) (i : Nat) : Nat := if us.length - 4 * i < 4 then us.length - 4 * i else 4
def kuN (us : List Int) : Nat → List Int
  | 0 => []
  | i + 1 => kuN us i ++ [rnVLaw (subLaw us (4 * i) (eN us i)) 0 0 4]
theorem kuN_len (us : List Int) : ∀ i, (kuN us i).length = i
  | 0 => rfl
  | i + 1 => by rw [kuN, List.length_append, kuN_len us i]; rfl
def cntNLaw (m : Nat) : Nat := (m + 3) / 4
def Fc81 (l i : Nat) : Fm := [(0, .func (.yield l) [] []), (1, .var 8 0), (2, .var 9 0), (4, .int .i64 (4 * (i : Nat)))]
def TT81 (zs Bs xs hs us : List Int) (g off n ro rn : Nat) (cp : Option Nat) (ow : Bool) (re : Int) (i : Nat) : Tab := [some ⟨.ints .u8 zs, g, ow, 5⟩, some ⟨.agg [.nilSlice, .nilSlice, .nilSlice], 0, true, 47⟩, some ⟨.agg [.slice 1 3 1 ro rn none, .int .i64 re, .bool true], 0, true, 115⟩, some ⟨.ints .u8 Bs, 1, true, 5⟩, some ⟨.agg [.slice 1 5 1 0 xs.length none, .slice 1 6 1 0 hs.length none, .slice 1 10 i 0 (kuN us i).length none], 0, true, 47⟩, some ⟨.ints .u8 xs, 1, true, 5⟩, some ⟨.ints .u8 hs, 1, true, 5⟩, some ⟨.ints .u8 us, 1, true, 5⟩, some ⟨.agg [.slice 1 7 1 0 us.length none], 0, true, 22⟩, some ⟨.ints .i64 [4], 0, true, 3⟩, some ⟨.ints .i64 (kuN us i), i, true, 3⟩]
noncomputable def Hs81 (g off n : Nat) (cp : Option Nat) : Host := ⟨#[17], as23, bd23, [(0, .slice 1 0 g off n cp), (2, .var 1 0), (3, .int .i64 0), (4, .var 2 0), (5, .var 4 0), (16, .func (.func 81) [] [.var 8 0, .var 9 0])], 32⟩
theorem sub_by {us : List Int} (h : ByLaw us) (a b : Nat) : ByLaw (subLaw us a b) := by_mem (fun c hc => by_of h c (List.mem_of_mem_drop (List.mem_of_mem_take hc)))
theorem rnd81 {zs Bs xs hs us : List Int} {g off n ro rn : Nat} {cp : Option Nat} {ow : Bool} {re : Int} (hb : ByLaw us) (hl : us.length ≤ 65536) (l : Nat) {i : Nat} (hi : 4 * i < us.length) :
    YWp eG6 31 11 [(l, Hs81 g off n cp)] (roundOf 0 f81) (Fc81 l i) (TT81 zs Bs xs hs us g off n ro rn cp ow re i) [(.ready, none)] fun ex fm T' σ' => ex = .normal ∧ fm = Fc81 l (i + 1) ∧ T' = TT81 zs Bs xs hs us g off n ro rn cp ow re (i + 1) ∧ σ' = [(.ready, none)] := by
  have hamb : ambIn 11 [(l, Hs81 g off n cp)] := ambIn_one rfl
  have hk := kuN_len us i
  have hsub : (subO (4 * i + eN us i) (4 * i)) = eN us i := by rw [subO_eq]; omega
  have he : eN us i ≤ us.length - 4 * i ∧ eN us i ≤ 4 := by unfold eN; split <;> omega
  have hsl : (subLaw us (4 * i) (eN us i)).length = eN us i := subLaw_len (by omega)
  have hbs := sub_by hb (4 * i) (eN us i)
  rw [split81]
  refine YWp.seq (YWp.ofTo (To.of (o := nHd zs Bs xs hs us (kuN us i) g off n ro rn i i cp ow re l) eG6_ok hmN (Nat.le_refl 11) OrcOk.nil rfl (nHd_ok (by
    simp only [allP, Con.h, eq_self, true_and, and_true, decide_eq_true_eq, decide_eq_false_iff_not]
    omega)) nHd_ex nHd_fm nHd_tab) hamb ?_)
  refine YWp.seq (YWp.block (YWp.seq (YWp.ofTo (To.of (o := nRa zs Bs xs hs us (kuN us i) g off n ro rn i i cp ow re l) (fm' := ([(0, .func (.yield l) [] []), (1, .var 8 0), (2, .var 9 0), (4, .int .i64 (4 * (i : Nat))), (5, .int .i64 ((eN us i : Nat) : Int))])) eG6_ok hmN (Nat.le_refl 11) OrcOk.nil rfl (nRa_ok (by
    simp only [allP, Con.h, eq_self, true_and, and_true, decide_eq_true_eq, decide_eq_false_iff_not]
    omega)) nRa_ex ?_ nRa_tab) hamb ?_)))
  · rw [nRa_fm, subO_eq]
    have : (if ((us.length - 4 * i : Nat) : Int) < 4 then ((us.length - 4 * i : Nat) : Int) else 4) = ((eN us i : Nat) : Int) := by
      unfold eN
      split <;> split <;> omega
    rw [this]
  refine YWp.seq (YWp.yieldRegion eG6_ok (l1 := ops81.toList.take 10) (l2 := ops81.toList.drop 11) (oy := ops81.toList.getD 10 default) (by kernel_rfl) (ds1 := []) (o1 := nYp zs Bs xs hs us (kuN us i) g off n ro rn i i cp ow re (eN us i) l) (by kernel_rfl) (nYp_ok (by
    simp only [allP, Con.h, eq_self, true_and, and_true, decide_eq_true_eq, decide_eq_false_iff_not]
    omega)) (f := .tmp 19) (x := .tmp 28) (t := 29) (c := theCall (ops81.toList.getD 10 default)) (by kernel_rfl) (by kernel_rfl) (by kernel_rfl) (by kernel_rfl) (by kernel_rfl) (by decide) (i := 0) (l := l) (H := Hs81 g off n cp) (by rw [nYp_fm]; rfl) (v := .slice 1 7 1 (4 * i) (subO (4 * i + eN us i) (4 * i)) (some (subO (4 * i + eN us i) (4 * i)))) (by rw [nYp_fm]; rfl) rfl rfl (p := 17) rfl (by show 17 < 32; decide) (kk := 11) (by decide) (by rw [nYp_fm]; exact fmIn_of rfl) hamb ?_)
  rw [nYp_tab]
  refine YWp.ofTo (To.of (o := nAs zs Bs xs hs us (kuN us i) g off n ro rn i i cp ow re (subO (4 * i + eN us i) (4 * i))) eG6_ok hmN (Nat.le_refl 11) OrcOk.nil rfl (nAs_ok trivial) nAs_ex nAs_fm nAs_tab) hamb ⟨rfl, rfl, ?_⟩
  refine YWp.ofTo (To.ofG (o := nBd zs Bs xs hs us (kuN us i) g off n ro rn i i cp ow re (subO (4 * i + eN us i) (4 * i))) (T' := TT81 zs Bs xs hs us g off n ro rn cp ow re (i + 1)) eG6_ok hmN (Nat.le_refl 11) OrcOk.nil rfl (nBd_ok ?_) nBd_ex nBd_fm ?_) hamb ⟨by decide, [], nYn zs Bs xs hs us (kuN us (i + 1)) g off n ro rn (i + 1) i cp ow re (eN us i) l, by rw [nYp_fm]; rfl, nYn_ok trivial, ?_⟩
  · rw [hsub]
    simp only [allP, Con.h, eq_self, true_and, and_true, decide_eq_true_eq, decide_eq_false_iff_not, hsl, hbs, addO_eq, hk, Nat.sub_zero, Nat.zero_le, Nat.zero_add, Nat.le_refl]
    omega
  · rw [nBd_tab, hsub, addO_eq, List.take_length]
    unfold TT81
    rw [show (kuN us (i + 1)).length = (kuN us i).length + 1 by rw [kuN, List.length_append]; rfl]
    rfl
  rw [nYn_fm, nYn_tab]
  refine YWp.ofTo (To.of (o := nCn zs Bs xs hs us (kuN us (i + 1)) g off n ro rn (i + 1) i cp ow re (eN us i) l) eG6_ok hmN (Nat.le_refl 11) OrcOk.nil rfl (nCn_ok trivial) nCn_ex nCn_fm nCn_tab) hamb ?_
  refine YWp.ofTo (To.of (o := nRz zs Bs xs hs us (kuN us (i + 1)) g off n ro rn (i + 1) i cp ow re (eN us i) l) eG6_ok hmN (Nat.le_refl 11) OrcOk.nil rfl (nRz_ok (by
    simp only [allP, Con.h, eq_self, true_and, and_true, decide_eq_true_eq, decide_eq_false_iff_not]
    omega)) nRz_ex nRz_fm nRz_tab) hamb ?_
  refine ⟨rfl, ?_, rfl, rfl⟩
  unfold Fc81
  rw [show (4 * ((i + 1 : Nat) : Int)) = 4 * (i : Int) + 4 by omega]
theorem callee81 {zs Bs xs hs us : List Int} {g off n ro rn : Nat} {cp : Option Nat} {ow : Bool} {re : Int} (hb : ByLaw us) (hl : us.length ≤ 65536) (l : Nat) : YWp eG6 31 11 [(l, Hs81 g off n cp)] (bodyOf f81) (argF ([] ++ (.func (.yield l) [] [] :: [.var 8 0, .var 9 0])) 0) (TT81 zs Bs xs hs us g off n ro rn cp ow re 0) [(.ready, none)] fun ex fm' T' σ' =>
    (ex = .normal ∨ ex = .ret) ∧ (∃ cs us, aRes eG6 fm' T' f81.results.toList = some (cs, us) ∧ allP cs) ∧ ∃ st σ2, σ' = st :: σ2 ∧ st.1 ≠ .busy ∧
      match st.2 with
      | none => (AExit.normal = .normal ∨ AExit.normal = .exit 0) ∧ [(0, .slice 1 0 g off n cp), (2, .var 1 0), (3, .int .i64 0), (4, .var 2 0), (5, .var 4 0), (16, .func (.func 81) [] [.var 8 0, .var 9 0])] = (Hs81 g off n cp).fm ∧ T' = TT81 zs Bs xs hs us g off n ro rn cp ow re (cntNLaw us.length)
      | some (.exit id) => (AExit.exit id = .normal ∨ AExit.exit id = .exit 0) ∧ [(0, .slice 1 0 g off n cp), (2, .var 1 0), (3, .int .i64 0), (4, .var 2 0), (5, .var 4 0), (16, .func (.func 81) [] [.var 8 0, .var 9 0])] = (Hs81 g off n cp).fm ∧ T' = TT81 zs Bs xs hs us g off n ro rn cp ow re (cntNLaw us.length)
      | some .ret => (AExit.ret = .normal ∨ AExit.ret = .exit 0) ∧ [(0, .slice 1 0 g off n cp), (2, .var 1 0), (3, .int .i64 0), (4, .var 2 0), (5, .var 4 0), (16, .func (.func 81) [] [.var 8 0, .var 9 0])] = (Hs81 g off n cp).fm ∧ T' = TT81 zs Bs xs hs us g off n ro rn cp ow re (cntNLaw us.length)
      | _ => False := by
  have hamb : ambIn 11 [(l, Hs81 g off n cp)] := ambIn_one rfl
  rw [splitb81, res81]
  refine YWp.seq (YWp.ofTo (To.of (o := nRs zs Bs xs hs us (kuN us 0) g off n ro rn 0 0 cp ow re l) (fm' := Fc81 l 0) eG6_ok hmN (Nat.le_refl 11) OrcOk.nil rfl (nRs_ok trivial) nRs_ex nRs_fm nRs_tab) hamb ?_)
  refine YWp.block (YWp.loop (fun fm T σ μ => ∃ i, i ≤ cntNLaw us.length ∧ μ = cntNLaw us.length - i ∧ fm = Fc81 l i ∧ T = TT81 zs Bs xs hs us g off n ro rn cp ow re i ∧ σ = [(.ready, none)]) (cntNLaw us.length) ⟨0, Nat.zero_le _, rfl, rfl, rfl, rfl⟩ ?_)
  rintro fm T σ μ ⟨i, hi, rfl, rfl, rfl, rfl⟩
  have hc : cntNLaw us.length = (us.length + 3) / 4 := rfl
  by_cases h4 : 4 * i < us.length
  · refine YWp.mono (rnd81 hb hl l h4) fun ex fm T σ hP => ?_
    obtain ⟨rfl, rfl, rfl, rfl⟩ := hP
    exact ⟨cntNLaw us.length - (i + 1), by omega, i + 1, by omega, rfl, rfl, rfl, rfl⟩
  · obtain rfl : i = cntNLaw us.length := by omega
    rw [split81]
    refine YWp.seq (YWp.ofTo (To.of (o := nHe zs Bs xs hs us (kuN us (cntNLaw us.length)) g off n ro rn (cntNLaw us.length) (cntNLaw us.length) cp ow re l) (T := TT81 zs Bs xs hs us g off n ro rn cp ow re (cntNLaw us.length)) (fm := Fc81 l (cntNLaw us.length)) eG6_ok hmN (Nat.le_refl 11) OrcOk.nil rfl (nHe_ok (by
      simp only [allP, Con.h, eq_self, true_and, and_true, decide_eq_true_eq, decide_eq_false_iff_not]
      omega)) nHe_ex nHe_fm nHe_tab) hamb ?_)
    exact ⟨.inl rfl, ⟨[], [], rfl, trivial⟩, (.ready, none), [], rfl, by decide, .inl rfl, rfl, rfl⟩
theorem blk23 {zs Bs xs hs us : List Int} {g off n ro rn : Nat} {cp : Option Nat} {ow : Bool} {re : Int} (hb : ByLaw us) (hl : us.length ≤ 65536) : To eG6 32 11 (.block 0 rf23) [(0, .slice 1 0 g off n cp), (2, .var 1 0), (3, .int .i64 0), (4, .var 2 0), (5, .var 4 0), (16, .func (.func 81) [] [.var 8 0, .var 9 0])] (TT81 zs Bs xs hs us g off n ro rn cp ow re 0) .normal [(0, .slice 1 0 g off n cp), (2, .var 1 0), (3, .int .i64 0), (4, .var 2 0), (5, .var 4 0), (16, .func (.func 81) [] [.var 8 0, .var 9 0])] (TT81 zs Bs xs hs us g off n ro rn cp ow re (cntNLaw us.length)) := by
  refine AWp.block (AWp.ofY ?_)
  rw [rf23_eq]
  refine YWp.mono (YWp.rangeFunc (post := fun ex fm T' σ' => (ex = .normal ∨ ex = .exit 0) ∧ fm = (Hs81 g off n cp).fm ∧ T' = TT81 zs Bs xs hs us g off n ro rn cp ow re (cntNLaw us.length)) eG6_ok (gf := 81) (gfn := f81) (c := bodyOf f81) (first := []) (caps := [.var 8 0, .var 9 0]) rfl (by kernel_rfl) (by kernel_rfl) (by kernel_rfl) (kk := 11) (Nat.le_refl _) (fmIn_of rfl) (by kernel_rfl) (fun l => callee81 hb hl l)) fun ex fm T σ hP => ?_
  obtain ⟨h1, rfl, rfl⟩ := hP
  rcases h1 with rfl | rfl
  · exact ⟨rfl, rfl, rfl⟩
  · exact ⟨rfl, rfl, rfl⟩
end Go.Abs

set_option linter.unusedVariables false
set_option linter.unusedSimpArgs false
set_option maxRecDepth 100000
set_option maxHeartbeats 4000000
namespace Go.Abs
open Go.Proofs Go.Proofs.Try
/-! ### any bytes, as a parent -/
theorem rv_short (B : List Int) (off : Nat) (e : Int) : (rvVLaw B off e).length ≤ 65536 := by
  unfold rvVLaw rvP
  by_cases he : e ≠ 0
  · rw [if_pos he]; simp
  rw [if_neg he]
  show (rtVLaw B (rlOLaw B off 0) (rvE1 B off) (rlVLaw B off 0)).length ≤ 65536
  unfold rtVLaw rtP
  by_cases h1 : rvE1 B off ≠ 0
  · rw [if_pos h1]; simp
  rw [if_neg h1]
  by_cases h2 : rlVLaw B off 0 < 0
  · rw [if_pos h2]; simp
  rw [if_neg h2]
  by_cases h3 : ((B.length - rlOLaw B off 0 : Nat) : Int) < rlVLaw B off 0
  · rw [if_pos h3]; simp
  rw [if_neg h3]
  show (subLaw B (rlOLaw B off 0) (rlVLaw B off 0).toNat).length ≤ 65536
  have h4 : rlVLaw B off 0 ≤ 65536 := by
    have h1 : rvE1 B off = 0 := Classical.not_not.1 h1
    unfold rvE1 at h1
    split at h1
    · cases h1
    · rename_i hx
      by_cases h5 : 65536 < rlVLaw B off 0
      · exact absurd ⟨h1, h5⟩ hx
      · omega
  unfold subLaw
  rw [List.length_take]
  omega
theorem rv_by {B : List Int} (hb : ByLaw B) (off : Nat) (e : Int) : ByLaw (rvVLaw B off e) := by
  have nil : ByLaw [] := fun i => by simp
  unfold rvVLaw rvP
  by_cases he : e ≠ 0
  · rw [if_pos he]; exact nil
  rw [if_neg he]
  show ByLaw (rtVLaw B (rlOLaw B off 0) (rvE1 B off) (rlVLaw B off 0))
  unfold rtVLaw rtP
  split
  · exact nil
  split
  · exact nil
  split
  · exact nil
  · exact sub_by hb _ _
/-- the three vectors -/
def qO1Law (B : List Int) : Nat := rvOLaw B 0 0
def qE1Law (B : List Int) : Int := rvELaw B 0 0
def qO2Law (B : List Int) : Nat := rvOLaw B (qO1Law B) (qE1Law B)
def qE2Law (B : List Int) : Int := rvELaw B (qO1Law B) (qE1Law B)
def qO3Law (B : List Int) : Nat := rvOLaw B (qO2Law B) (qE2Law B)
def qE3Law (B : List Int) : Int := rvELaw B (qO2Law B) (qE2Law B)
def qXLaw (B : List Int) : List Int := rvVLaw B 0 0
def qHLaw (B : List Int) : List Int := rvVLaw B (qO1Law B) (qE1Law B)
def qULaw (B : List Int) : List Int := rvVLaw B (qO2Law B) (qE2Law B)
def qKLaw (B : List Int) : List Int := kuN (qULaw B) (cntNLaw (qULaw B).length)
theorem q_off (B : List Int) : qO1Law B ≤ B.length ∧ qO2Law B ≤ B.length ∧ qO3Law B ≤ B.length := by
  have k1 := (rv_off (B := B) (off := 0) (Nat.zero_le _) 0).2
  have k2 := (rv_off k1 (qE1Law B)).2
  exact ⟨k1, k2, (rv_off k2 (qE2Law B)).2⟩
theorem pu_len4 {ks : List Int} (h : RiseU ks) : ∀ i, i ≤ ks.length → (puN ks i).length = 4 * i
  | 0, _ => rfl
  | i + 1, hi => by
    have hr := rise_in h (i := i) (by omega)
    rw [puN, List.length_append, pu_len4 h i (by omega), num4 hr.1 hr.2]
    simp only [List.length_cons, List.length_nil]
    omega
def gpOK (B : List Int) : Prop := reLaw B (qO3Law B) (qE3Law B) = 0 ∧ RightPa (qXLaw B) (qHLaw B) (qKLaw B) ∧ ppBLaw (qXLaw B) (qHLaw B) (qKLaw B) = B
instance (B : List Int) : Decidable (gpOK B) := by unfold gpOK; exact inferInstance
theorem pp_bytes {a b u : List Int} (ha : ∀ c ∈ a, 0 ≤ c ∧ c < 256) (hb : ∀ c ∈ b, 0 ≤ c ∧ c < 256) : ∀ c ∈ ppBLaw a b u, 0 ≤ c ∧ c < 256 := by
  unfold ppBLaw
  split
  · unfold jn3Law
    refine app_by (vec1_by ha) (app_by (vec1_by hb) (vec1_by ?_))
    have : ∀ i, ∀ c ∈ puN u i, 0 ≤ c ∧ c < 256 := fun i => by
      induction i with
      | zero => exact nil_by
      | succ i ih => exact app_by ih (num_by _ _)
    exact this _
  · exact nil_by
def gpXLaw (B : List Int) : List Int := if gpOK B then qXLaw B else []
def gpHLaw (B : List Int) : List Int := if gpOK B then qHLaw B else []
def gpKLaw (B : List Int) : List Int := if gpOK B then qKLaw B else []
def gpGLaw (B : List Int) : Nat := if gpOK B then cntNLaw (qULaw B).length else 0
def gpELaw (B : List Int) : Int := if gpOK B then 0 else 21
end Go.Abs
