/- What functions of the given program come to, by the abstract machine: one text of a proof. -/
import Derived.Test.YtlnflmjgnmljeaaBA4
set_option linter.unusedVariables false
set_option linter.unusedSimpArgs false
set_option maxRecDepth 8000
namespace Go.Abs
open Go.Proofs.Try
/-! ### AesBoxes: the law -/
def sm17 : Summary := fun args T => match args, T with
  | [], [] => ⟨[], .bool true, []⟩
  | _, _ => fail
theorem sm17_ok : SmOk prog (fun _ => none) 17 sm17 := by
  intro args T hc
  unfold sm17 at hc ⊢
  split at hc
  · exact small_of (R := R17) eE_ok hmA (f := 17) (fn := f17) (by kernel_rfl) (by kernel_rfl) FnOrc.nil rfl (R17_ok trivial) R17_val R17_tab
  · exact absurd hc nofail
def S17 : Summary := callR sm17 []
theorem S17_ok : SumOk prog (fun _ => none) 17 S17 := callR_ok sm17_ok []
noncomputable def eF : Env := eA [(15, S15), (16, S16), (17, S17)]
theorem eF_ok : EnvOk eF := envOf_ok tysA_ok (SumsOk.cons (fn := f15) S15_ok (by kernel_rfl) (by kernel_rfl) (by kernel_rfl) (SumsOk.cons (fn := f16) S16_ok (by kernel_rfl) (by kernel_rfl) (by kernel_rfl) (SumsOk.cons (fn := f17) S17_ok (by kernel_rfl) (by kernel_rfl) (by kernel_rfl) trivial)))
noncomputable def R3e (x y : Int) : Res := runF eF f3 [] 100 [.int .u8 x, .int .u8 y] [] [some true, some true, some true, none]
theorem R3e_ok {x y : Int} (h : allP [Con.rng 0 x 255, Con.rng 0 x 255, Con.p ((boxLaw x == boxLaw x) = true), Con.p ((x == y) = true), Con.rng 0 x 255,
    Con.p ((boxLaw x != x) = true)]) : OkR (R3e x y) := OkR.dem (fl := [false, false, false, false, false, false]) (by kernel_rfl) (by kernel_rfl) (by kernel_rfl) h
theorem R3e_val {x y : Int} : (R3e x y).val = AVal.bool true := by kernel_rfl
theorem R3e_tab {x y : Int} : (R3e x y).tab = [] := by kernel_rfl
noncomputable def R3n (x y : Int) : Res := runF eF f3 [] 100 [.int .u8 x, .int .u8 y] [] [some true, some false, some true, some true, none]
theorem R3n_ok {x y : Int} (h : allP [Con.rng 0 x 255, Con.rng 0 x 255, Con.p ((boxLaw x == boxLaw x) = true), Con.p ((x == y) = false), Con.rng 0 x 255,
    Con.rng 0 y 255, Con.p ((boxLaw x != boxLaw y) = true), Con.rng 0 x 255, Con.p ((boxLaw x != x) = true)]) : OkR (R3n x y) := OkR.dem (fl := [false, false, false, false, false, false, false, false, false]) (by kernel_rfl) (by kernel_rfl) (by kernel_rfl) h
theorem R3n_val {x y : Int} : (R3n x y).val = AVal.bool true := by kernel_rfl
theorem R3n_tab {x y : Int} : (R3n x y).tab = [] := by kernel_rfl
theorem box_tab : ((List.range 256).all fun x => (boxLaw x != (x : Int)) && (List.range 256).all fun y => (x == y) || (boxLaw x != boxLaw y)) = true := by kernel_rfl
theorem law3 {x y : Int} (hx : 0 ≤ x ∧ x < 256) (hy : 0 ≤ y ∧ y < 256) : Small prog (fun _ => none) 3 [.int .u8 x, .int .u8 y] [] (.bool true) [] := by
  obtain ⟨a, rfl⟩ := Int.eq_ofNat_of_zero_le hx.1
  obtain ⟨b, rfl⟩ := Int.eq_ofNat_of_zero_le hy.1
  have h := List.all_eq_true.1 box_tab a (List.mem_range.2 (by omega))
  simp only [Bool.and_eq_true, List.all_eq_true, List.mem_range, Bool.or_eq_true, beq_iff_eq, bne_iff_ne, ne_eq] at h
  obtain ⟨h1, h2⟩ := h
  by_cases e : a = b
  · subst e
    exact small_of (R := R3e a a) eF_ok hmA (f := 3) (fn := f3) (by kernel_rfl) (by kernel_rfl) FnOrc.nil rfl (R3e_ok (by simp [allP, Con.h, h1]; omega)) R3e_val R3e_tab
  · have h3 := (h2 b (by omega)).resolve_left e
    exact small_of (R := R3n a b) eF_ok hmA (f := 3) (fn := f3) (by kernel_rfl) (by kernel_rfl) FnOrc.nil rfl (R3n_ok (by simp [allP, Con.h, h1, h3, e]; omega)) R3n_val R3n_tab
end Go.Abs
