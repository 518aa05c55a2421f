/- What functions of the given program come to, by the abstract machine: one text of a proof. -/
import Derived.Test.YtlnflmjgnmljeaaBA3
set_option linter.unusedVariables false
set_option linter.unusedSimpArgs false
set_option maxRecDepth 8000
namespace Go.Abs
open Go.Proofs.Try
def strOps : List Oper → List UInt8
  | [] => []
  | o :: r => match o.op with
    | .index _ (.const (.string s)) _ => s.data.toList
    | _ => strOps r
def strCode : Code → List UInt8
  | .seq a b => match strCode a with | [] => strCode b | x :: r => x :: r
  | .region _ ops _ => strOps ops.toList
  | _ => []
noncomputable def boxS : List UInt8 := strCode (bodyOf f15)
noncomputable def R15 (x : Int) : Res := runF (eA []) f15 [] 100 [.int .u8 x] [] []
theorem boxS_eq : (boxS.length, boxS.map fun c => (c.toNat : Int)) = (256, BOXLaw) := by kernel_rfl
theorem R15_val {x : Int} : (R15 x).val = .int .u8 ((boxS.getD x.toNat 0).toNat : Int) := by kernel_rfl
theorem R15_tab {x : Int} : (R15 x).tab = [] := by kernel_rfl
theorem R15_cs {x : Int} : (R15 x).cs = [.leI 0 x, .leI (x + 1) boxS.length] := by kernel_rfl
def boxLaw (x : Int) : Int := BOXLaw.getD x.toNat 0
theorem boxS_get (n : Nat) : ((boxS.getD n 0).toNat : Int) = BOXLaw.getD n 0 := by
  have h2 : (boxS.map fun c => (c.toNat : Int)) = BOXLaw := (Prod.mk.inj boxS_eq).2
  rw [← h2]
  simp only [List.getD, List.getElem?_map]
  cases boxS[n]? <;> rfl
def sm15 : Summary := fun args T => match args, T with
  | [.int .u8 x], [] => ⟨[.rng 0 x 255], .int .u8 (boxLaw x), []⟩
  | _, _ => fail
theorem sm15_ok : SmOk prog (fun _ => none) 15 sm15 := by
  intro args T hc
  unfold sm15 at hc ⊢
  split at hc
  · rename_i x
    obtain ⟨h1, _⟩ := hc
    simp only [Con.h] at h1
    have hl : boxS.length = 256 := (Prod.mk.inj boxS_eq).1
    refine small_of (R := R15 x) eA0_ok hmA (f := 15) (fn := f15) (by kernel_rfl) (by kernel_rfl) FnOrc.nil rfl (OkR.of R15_cs ?_) ?_ R15_tab
    · simp only [allP, Con.h, hl, and_true]; omega
    · rw [R15_val, boxS_get]; rfl
  · exact absurd hc nofail
def S15 : Summary := callR sm15 []
theorem S15_ok : SumOk prog (fun _ => none) 15 S15 := callR_ok sm15_ok []
noncomputable def eD : Env := eA [(39, S39)]
theorem eD_ok : EnvOk eD := envOf_ok tysA_ok (SumsOk.cons (fn := f39) S39_ok (by kernel_rfl) (by kernel_rfl) (by kernel_rfl) trivial)
noncomputable def R16 (x : Int) : Res := runF eD f16 [] 100 [.int .u8 x] [] []
theorem R16_ok {x : Int} (h : allP [Con.leI 0 x, Con.leI (x + 1) 256, Con.leN (x.toNat + 1) 256]) : OkR (R16 x) := OkR.dem (fl := [true, false, false, true, false]) (by kernel_rfl) (by kernel_rfl) (by kernel_rfl) h
theorem R16_val {x : Int} : (R16 x).val = AVal.int IntKind.u8 (BOXLaw.getD x.toNat 0) := by kernel_rfl
theorem R16_tab {x : Int} : (R16 x).tab = [some { data := AVal.ints IntKind.u8 BOXLaw, g := 256, own := true, et := 5 }] := by kernel_rfl
def sm16 : Summary := fun args T => match args, T with
  | [.int .u8 x], [] => ⟨[.rng 0 x 255], .int .u8 (boxLaw x), [some ⟨.ints .u8 BOXLaw, 256, true, 5⟩]⟩
  | _, _ => fail
theorem sm16_ok : SmOk prog (fun _ => none) 16 sm16 := by
  intro args T hc
  unfold sm16 at hc ⊢
  split at hc
  · rename_i x
    obtain ⟨h1, _⟩ := hc
    simp only [Con.h] at h1
    have hl : BOXLaw.length = 256 := by kernel_rfl
    refine small_of (R := R16 x) eD_ok hmA (f := 16) (fn := f16) (by kernel_rfl) (by kernel_rfl) FnOrc.nil rfl (R16_ok ?_) R16_val R16_tab
    simp only [allP, Con.h, hl, and_true]; omega
  · exact absurd hc nofail
def S16 : Summary := callR sm16 []
theorem S16_ok : SumOk prog (fun _ => none) 16 S16 := callR_ok sm16_ok []
noncomputable def S21 : Summary := sumI modeO (eA []) f21 [] 100 [] []
theorem S21_ok : SumOk prog (fun _ => none) 21 S21 := sumI_ok eA0_ok hmA (fn := f21) (by kernel_rfl) (by kernel_rfl) [] FnOrc.nil 100 [] []
noncomputable def S19n : Summary := sumI modeO (eA []) f19 [] 100 [] []
theorem S19n_ok : SumOk prog (fun _ => none) 19 S19n := sumI_ok eA0_ok hmA (fn := f19) (by kernel_rfl) (by kernel_rfl) [] FnOrc.nil 100 [] []
noncomputable def eE : Env := eA [(15, S15), (19, S19n), (21, S21)]
theorem eE_ok : EnvOk eE := envOf_ok tysA_ok (SumsOk.cons (fn := f15) S15_ok (by kernel_rfl) (by kernel_rfl) (by kernel_rfl) (SumsOk.cons (fn := f19) S19n_ok (by kernel_rfl) (by kernel_rfl) (by kernel_rfl) (SumsOk.cons (fn := f21) S21_ok (by kernel_rfl) (by kernel_rfl) (by kernel_rfl) trivial)))
noncomputable def R17  : Res := runF eE f17 [] 100 [] [] []
theorem R17_ok  (h : allP []) : OkR (R17 ) := OkR.dem (fl := [true, true]) (by kernel_rfl) (by kernel_rfl) (by kernel_rfl) h
theorem R17_val  : (R17 ).val = AVal.bool true := by kernel_rfl
theorem R17_tab  : (R17 ).tab = [] := by kernel_rfl
end Go.Abs
