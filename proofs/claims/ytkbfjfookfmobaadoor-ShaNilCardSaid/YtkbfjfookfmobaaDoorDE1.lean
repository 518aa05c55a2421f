/- What functions of the given program come to, by the abstract machine: one text of a proof. -/
import Derived.Test.YtkbfjfookfmobaaDoorDD9
set_option linter.unusedVariables false
set_option linter.unusedSimpArgs false
set_option maxRecDepth 8000
set_option maxHeartbeats 4000000
namespace Go.Abs
open Go.Proofs Go.Proofs.Tryd
/-! ### no hash, and others -/
noncomputable def S19 : Summary := sumI modeO (eS0 []) f19 [] 200 [] []
theorem S19_ok : SumOk prog glS 19 S19 := sumI_ok eS0_ok hmS (fn := f19) (by kernel_rfl) (by kernel_rfl) [] FnOrc.nil 200 [] []
noncomputable def S19x : Summary := sumI modeO (eS0 []) f19 [] 200 [some true, some true] []
theorem S19x_ok : SumOk prog glS 19 S19x := sumI_ok eS0_ok hmS (fn := f19) (by kernel_rfl) (by kernel_rfl) [] FnOrc.nil 200 [some true, some true] []
noncomputable def S20 : Summary := sumI modeO (eS0 []) f20 [] 200 [] []
theorem S20_ok : SumOk prog glS 20 S20 := sumI_ok eS0_ok hmS (fn := f20) (by kernel_rfl) (by kernel_rfl) [] FnOrc.nil 200 [] []
noncomputable def S21 : Summary := sumI modeO (eS0 []) f21 [] 200 [] []
theorem S21_ok : SumOk prog glS 21 S21 := sumI_ok eS0_ok hmS (fn := f21) (by kernel_rfl) (by kernel_rfl) [] FnOrc.nil 200 [] []
noncomputable def S22 : Summary := sumI modeO (eS0 []) f22 [] 200 [] []
theorem S22_ok : SumOk prog glS 22 S22 := sumI_ok eS0_ok hmS (fn := f22) (by kernel_rfl) (by kernel_rfl) [] FnOrc.nil 200 [] []
noncomputable def eN1 : Env := eS0 [(20, S20)]
theorem eN1_ok : EnvOk eN1 := envOf_ok tysS_ok (SumsOk.cons (fn := f20) S20_ok (by kernel_rfl) (by kernel_rfl) (by kernel_rfl) trivial)
noncomputable def S23 : Summary := sumI modeO eN1 f23 [] 200 [] []
theorem S23_ok : SumOk prog glS 23 S23 := sumI_ok eN1_ok hmS (fn := f23) (by kernel_rfl) (by kernel_rfl) [] FnOrc.nil 200 [] []
noncomputable def eN2 : Env := eS0 [(16, S16), (19, S19), (20, S20), (21, S21), (22, S22), (23, S23)]
theorem eN2_ok : EnvOk eN2 := envOf_ok tysS_ok (SumsOk.cons (fn := f16) S16_ok (by kernel_rfl) (by kernel_rfl) (by kernel_rfl) (SumsOk.cons (fn := f19) S19_ok (by kernel_rfl) (by kernel_rfl) (by kernel_rfl) (SumsOk.cons (fn := f20) S20_ok (by kernel_rfl) (by kernel_rfl) (by kernel_rfl) (SumsOk.cons (fn := f21) S21_ok (by kernel_rfl) (by kernel_rfl) (by kernel_rfl) (SumsOk.cons (fn := f22) S22_ok (by kernel_rfl) (by kernel_rfl) (by kernel_rfl) (SumsOk.cons (fn := f23) S23_ok (by kernel_rfl) (by kernel_rfl) (by kernel_rfl) trivial))))))
noncomputable def eN3 : Env := eS0 [(16, S16), (19, S19x), (20, S20), (21, S21), (22, S22), (23, S23)]
theorem eN3_ok : EnvOk eN3 := envOf_ok tysS_ok (SumsOk.cons (fn := f16) S16_ok (by kernel_rfl) (by kernel_rfl) (by kernel_rfl) (SumsOk.cons (fn := f19) S19x_ok (by kernel_rfl) (by kernel_rfl) (by kernel_rfl) (SumsOk.cons (fn := f20) S20_ok (by kernel_rfl) (by kernel_rfl) (by kernel_rfl) (SumsOk.cons (fn := f21) S21_ok (by kernel_rfl) (by kernel_rfl) (by kernel_rfl) (SumsOk.cons (fn := f22) S22_ok (by kernel_rfl) (by kernel_rfl) (by kernel_rfl) (SumsOk.cons (fn := f23) S23_ok (by kernel_rfl) (by kernel_rfl) (by kernel_rfl) trivial))))))
noncomputable def R5a (zs : List Int) (n : Nat) : Res := runF eN2 f5 [] 400 [.int .i64 256, .slice 1 0 0 0 n (some zs.length)] [some ⟨.ints .u8 zs, 0, false, 5⟩] []
theorem R5a_ok {zs : List Int} {n : Nat} (h : allP []) : OkR (R5a zs n) := OkR.dem (fl := bitsF 41 2199023255551) (by kernel_rfl) (by kernel_rfl) (by kernel_rfl) h
theorem R5a_val {zs : List Int} {n : Nat} : (R5a zs n).val = .bool true := by kernel_rfl
theorem R5a_tab {zs : List Int} {n : Nat} : (R5a zs n).tab = [some ⟨.ints .u8 zs, 0, false, 5⟩, some ⟨.agg [.int .i64 256, .nilSlice], 0, true, 35⟩, some ⟨.agg [.int .i64 0, .nilSlice], 0, true, 35⟩, some ⟨.agg [.int .i64 0, .nilSlice], 0, true, 35⟩] := by kernel_rfl
noncomputable def R5b (zs : List Int) (n : Nat) : Res := runF eN2 f5 [] 400 [.int .i64 512, .slice 1 0 0 0 n (some zs.length)] [some ⟨.ints .u8 zs, 0, false, 5⟩] []
theorem R5b_ok {zs : List Int} {n : Nat} (h : allP []) : OkR (R5b zs n) := OkR.dem (fl := bitsF 41 2199023255551) (by kernel_rfl) (by kernel_rfl) (by kernel_rfl) h
theorem R5b_val {zs : List Int} {n : Nat} : (R5b zs n).val = .bool true := by kernel_rfl
theorem R5b_tab {zs : List Int} {n : Nat} : (R5b zs n).tab = [some ⟨.ints .u8 zs, 0, false, 5⟩, some ⟨.agg [.int .i64 512, .nilSlice], 0, true, 35⟩, some ⟨.agg [.int .i64 0, .nilSlice], 0, true, 35⟩, some ⟨.agg [.int .i64 0, .nilSlice], 0, true, 35⟩] := by kernel_rfl
noncomputable def R5c (a : Int) (zs : List Int) (n : Nat) : Res := runF eN3 f5 [] 400 [.int .i64 a, .slice 1 0 0 0 n (some zs.length)] [some ⟨.ints .u8 zs, 0, false, 5⟩] [none, some false, some false]
theorem R5c_ok {a : Int} {zs : List Int} {n : Nat} (h : allP [.p ((a != 256) = true), .p ((a != 512) = true), .p ((a == 256) = false), .p ((a == 512) = false)]) : OkR (R5c a zs n) := OkR.dem (fl := bitsF 31 2147483632) (by kernel_rfl) (by kernel_rfl) (by kernel_rfl) h
theorem R5c_val {a : Int} {zs : List Int} {n : Nat} : (R5c a zs n).val = .bool true := by kernel_rfl
theorem R5c_tab {a : Int} {zs : List Int} {n : Nat} : (R5c a zs n).tab = [some ⟨.ints .u8 zs, 0, false, 5⟩, some ⟨.agg [.int .i64 0, .nilSlice], 0, true, 35⟩, some ⟨.agg [.int .i64 0, .nilSlice], 0, true, 35⟩] := by kernel_rfl
end Go.Abs
