/- What functions of the given program come to, by the abstract machine: one text of a proof. -/
import Derived.Test.YtmhfelkcibfigaaCA2
set_option linter.unusedVariables false
set_option linter.unusedSimpArgs false
set_option maxRecDepth 8000
namespace Go.Abs
open Go.Proofs.Try
def sm13 : Summary := fun args T => match args, T with
  | [], [] => ⟨[], .bool true, []⟩
  | _, _ => fail
theorem sm13_ok : SmOk prog (fun _ => none) 13 sm13 := by
  intro args T hc
  unfold sm13 at hc ⊢
  split at hc
  · have h := small_of (R := R13) eC4_ok hmC (f := 13) (fn := f13) (by kernel_rfl) (by kernel_rfl) FnOrc.nil rfl (R13_ok trivial) R13_val rfl
    exact small_drop h
  · exact absurd hc nofail
def S13 : Summary := callR sm13 []
theorem S13_ok : SumOk prog (fun _ => none) 13 S13 := callR_ok sm13_ok []
noncomputable def eC5 : Env := eC0 [(12, S12), (35, S35), (33, S33), (25, S25), (27, S27), (29, S29), (31, S31), (36, S36), (13, S13)]
theorem eC5_ok : EnvOk eC5 := envOf_ok tysC_ok (SumsOk.cons (fn := f12) S12_ok (by kernel_rfl) (by kernel_rfl) (by kernel_rfl) (SumsOk.cons (fn := f35) S35_ok (by kernel_rfl) (by kernel_rfl) (by kernel_rfl) (SumsOk.cons (fn := f33) S33_ok (by kernel_rfl) (by kernel_rfl) (by kernel_rfl)
  (SumsOk.cons (fn := f25) S25_ok (by kernel_rfl) (by kernel_rfl) (by kernel_rfl) (SumsOk.cons (fn := f27) S27_ok (by kernel_rfl) (by kernel_rfl) (by kernel_rfl) (SumsOk.cons (fn := f29) S29_ok (by kernel_rfl) (by kernel_rfl) (by kernel_rfl) (SumsOk.cons (fn := f31) S31_ok (by kernel_rfl) (by kernel_rfl) (by kernel_rfl)
  (SumsOk.cons (fn := f36) S36_ok (by kernel_rfl) (by kernel_rfl) (by kernel_rfl) (SumsOk.cons (fn := f13) S13_ok (by kernel_rfl) (by kernel_rfl) (by kernel_rfl) trivial)))))))))
noncomputable def R8 (n : Int) : Res := runF eC5 f8 [] 400 [.int .i64 n] [] []
theorem R8_ok {n : Int} (h : allP []) : OkR (R8 n) := OkR.dem (fl := [true, true, true, true, true, true, true, true, true, true, true, true, true, true, true, true, true, true, true,
    true, true, true, true, true, true, true, true, true, true, true, true, true, true, true, true, true, true, true,
    true, true, true, true, true, true, true, true, true, true, true, true, true]) (by kernel_rfl) (by kernel_rfl) (by kernel_rfl) h
theorem R8_val {n : Int} : (R8 n).val = AVal.bool true := by kernel_rfl
theorem R8_tab {n : Int} : (R8 n).tab = [some { data := AVal.agg [AVal.nilSlice, AVal.int IntKind.i64 0, AVal.bool false], g := 0, own := true, et := 60 },
    some { data := AVal.agg [AVal.nilSlice, AVal.int IntKind.i64 0, AVal.bool false], g := 0, own := true, et := 60 }] := by kernel_rfl
theorem law8 (n : Int) : Small prog (fun _ => none) 8 [.int .i64 n] [] (.bool true) (R8 n).tab := small_of (R := R8 n) eC5_ok hmC (f := 8) (fn := f8) (by kernel_rfl) (by kernel_rfl) FnOrc.nil rfl (R8_ok trivial) R8_val rfl
end Go.Abs
